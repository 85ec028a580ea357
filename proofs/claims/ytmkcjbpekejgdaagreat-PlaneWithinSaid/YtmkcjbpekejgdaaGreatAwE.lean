/-
  Parts of the proof, put together. No condition.
-/
import Derived.Test.YtmkcjbpekejgdaaGreatAwD
import Derived.WalkKit
/-
  The reckoning once more, in truth values: for closed calls, by the kernel. No condition.
-/
set_option linter.unusedSimpArgs false
set_option linter.unusedVariables false
noncomputable section
namespace Go.Aw
abbrev KEB := Value → Heap → Nat → Bool
abbrev KSB := List (Nat × Value) → Heap → Nat → Bool
abbrev VCB := Nat → List Value → Heap → Nat → KEB → Bool
abbrev VRB := Operand → Array Tmp → Code → Code → KSB → (Nat → KSB) → KSB → KSB
def won (x : Option Value) (K : Value → Bool) : Bool := match x with | some v => K v | none => false

def wbr (b : Bool) (A B : Unit → Bool) : Bool := match b with | true => A () | false => B ()

def wmust (b : Bool) (A : Bool) : Bool := match b with | true => A | false => false

def wload (T : Tab) (h : Heap) (t : TypeId) (x : Value) (K : Value → Bool) : Bool :=
  match x with
  | .pointer (some ⟨k, o, none⟩) =>
    match look T t, look h k with
    | some ti, some (.cells _ _ _ cs) =>
      match ti.isAgg with
      | true => (match getN cs o ti.size with | some l => K (.agg l.toArray) | none => false)
      | false => (match nth cs o with | some v => K v | none => false)
    | _, _ => false
  | _ => false

def wfieldAddr (T : Tab) (st : TypeId) (x : Value) (f : Nat) (K : Value → Bool) : Bool :=
  match x, look T st with
  | .pointer (some ⟨k, o, none⟩), some { kind := .st fs, .. } =>
    match fs[f]? with
    | some (off, ft) => (match look T ft with | some _ => K (.pointer (some ⟨k, o + off, none⟩)) | none => false)
    | none => false
  | _, _ => false

def windexAddr (A : Ar) (T : Tab) (t : TypeId) (x ix : Value) (K : Value → Bool) : Bool :=
  match look T t, x, ix with
  | some { kind := .sl e, .. }, .slice (some ⟨k, o, none⟩) n _, .int _ i =>
    (match look T e with | some ei => wmust (A.andB (A.le 0 i) (A.lt i (A.num n))) (K (.pointer (some ⟨k, A.ix o i ei.size, none⟩))) | none => false)
  | some { kind := .ar n e, .. }, .pointer (some ⟨k, o, none⟩), .int _ i =>
    (match look T e with | some ei => wmust (A.andB (A.le 0 i) (A.lt i (A.num n))) (K (.pointer (some ⟨k, A.ix o i ei.size, none⟩))) | none => false)
  | _, _, _ => false

def wpart (T : Tab) (t : TypeId) (cs : List Value) (o : Nat) (K : Value → Bool) : Bool :=
  match look T t with
  | some ti => (match ti.isAgg with
    | true => (match getN cs o ti.size with | some l => K (.agg l.toArray) | none => false)
    | false => (match nth cs o with | some v => K v | none => false))
  | none => false

def wfield (T : Tab) (st : TypeId) (x : Value) (f : Nat) (K : Value → Bool) : Bool :=
  match x, look T st with
  | .agg cs, some { kind := .st fs, .. } => (match fs[f]? with | some (off, ft) => wpart T ft cs.toList off K | none => false)
  | _, _ => false

def windex (A : Ar) (T : Tab) (t : TypeId) (x ix : Value) (K : Value → Bool) : Bool :=
  match look T t, x, ix with
  | some { kind := .ar n e, .. }, .agg cs, .int _ i =>
    (match look T e with | some ei => wmust (A.andB (A.le 0 i) (A.lt i (A.num n))) (wpart T e cs.toList (A.ix 0 i ei.size) K) | none => false)
  | some { kind := .str, .. }, .string b, .int _ i => (match (if 0 ≤ i then b[i.toNat]? else none) with | some u => K (.int .u8 (A.num u.toNat)) | none => false)
  | _, _, _ => false

def wint (A : Ar) (op : BinOp) (k : IntKind) (a b : Int) (K : Value → Bool) : Bool :=
  match op with
  | .add => wmust (A.fits k (A.add a b)) (K (.int k (A.add a b)))
  | .sub => wmust (A.fits k (A.sub a b)) (K (.int k (A.sub a b)))
  | .mul => wmust (A.fits k (A.mul a b)) (K (.int k (A.mul a b)))
  | .quo => wmust (A.andB (A.notB (A.eq b 0)) (A.fits k (A.quo a b))) (K (.int k (A.quo a b)))
  | .rem => wmust (A.notB (A.eq b 0)) (K (.int k (A.rem a b)))
  | .eql => K (.bool (A.eq a b))
  | .neq => K (.bool (A.notB (A.eq a b)))
  | .lss => K (.bool (A.lt a b))
  | .leq => K (.bool (A.le a b))
  | .gtr => K (.bool (A.lt b a))
  | .geq => K (.bool (A.le b a))
  | _ => false

def wbin (A : Ar) (T : Tab) (op : BinOp) (xt : TypeId) (x y : Value) (K : Value → Bool) : Bool :=
  match x, y with
  | .int k a, .int k' b => (match kEq k k' with | true => wint A op k a b K | false => false)
  | .bool a, .bool b => (match op, look T xt with
    | .eql, some { kind := .bool, .. } => K (.bool (A.eqB a b))
    | .neq, some { kind := .bool, .. } => K (.bool (A.notB (A.eqB a b)))
    | _, _ => false)
  | .agg xs, .agg ys => (match look T xt with
    | some _ => (match allG xs.toList, allG ys.toList with
      | true, true => (match veq A T 100 xt (.agg xs) (.agg ys) with
        | some r => (match op with
          | .eql => K (.bool r)
          | .neq => K (.bool (A.notB r))
          | _ => false)
        | none => false)
      | _, _ => false)
    | none => false)
  | _, _ => false

def wnil (T : Tab) (h : Heap) (op : BinOp) (t : TypeId) (x : Value) (K : Value → Bool) : Bool :=
  match look T t, nilB h x, op with
  | some { kind := .sl _, .. }, some b, .eql => K (.bool b)
  | some { kind := .sl _, .. }, some b, .neq => K (.bool (!b))
  | _, _, _ => false

def wun (A : Ar) (op : UnOp) (x : Value) (K : Value → Bool) : Bool :=
  match op, x with
  | .neg, .int k a => wmust (A.fits k (A.neg a)) (K (.int k (A.neg a)))
  | .not, .bool b => K (.bool (A.notB b))
  | _, _ => false

def wbuild (T : Tab) (t : TypeId) (ps : List (Nat × Value)) (K : Value → Bool) : Bool :=
  match look T t with
  | some ti =>
    match (match ti.kind with | .st fs => fieldsKnown T fs | .ar _ e => (look T e).isSome | _ => false), aggParts ps with
    | true, true => (match fillL (places T ti) ps ti.zv.cells.toList with
      | some cells => K (.agg cells.toArray)
      | none => false)
    | _, _ => false
  | none => false

def wbuiltin (A : Ar) (T : Tab) (b : Builtin) (ts : Array TypeId) (vs : List Value) (K : Value → Bool) : Bool :=
  match b, ts.toList, vs with
  | .len, [t], [.slice _ n _] => (match look T t with | some { kind := .sl _, .. } => K (.int .i64 (A.num n)) | _ => false)
  | .cap, [t], [.slice none _ c] => (match look T t with | some { kind := .sl _, .. } => K (.int .i64 (A.num c)) | _ => false)
  | .max, _, v :: r => won (vmm A.max v r) K
  | .min, _, v :: r => won (vmm A.min v r) K
  | _, _, _ => false

def wlook (A : Ar) (T : Tab) (env : List (Nat × Value)) (h : Heap) (op : Op) (K : Value → Bool) : Bool :=
  match op with
  | .move x | .assign x => won (opv env x) K
  | .pick c a b => won (opv env c) fun u => (match u with
    | .bool t => wbr t (fun _ => won (opv env a) K) (fun _ => won (opv env b) K)
    | _ => false)
  | .nilCheck x => won (opv env x) fun u => (match u with
    | .pointer (some a) => K (.pointer (some a))
    | .func (.func f) fi c => K (.func (.func f) fi c)
    | .func (.yield f) fi c => K (.func (.yield f) fi c)
    | _ => false)
  | .load t x => won (opv env x) fun u => wload T h t u K
  | .fieldAddr s x f => won (opv env x) fun u => wfieldAddr T s u f K
  | .field s x f => won (opv env x) fun u => wfield T s u f K
  | .indexAddr t x i => won (opv env x) fun u => won (opv env i) fun j => windexAddr A T t u j K
  | .index t x i => won (opv env x) fun u => won (opv env i) fun j => windex A T t u j K
  | .binOp op t x y _ => won (opv env x) fun u => won (opv env y) fun v => (match v with
    | .slice none _ _ => wnil T h op t u K
    | _ => wbin A T op t u v K)
  | .unOp op _ x => won (opv env x) fun u => wun A op u K
  | .convert s d x => won (opv env x) fun u => (match u, look T s, look T d with
    | .int _ n, some _, some { kind := .int k, .. } => wmust (A.fits k n) (K (.int k n))
    | _, _, _ => false)
  | .makeFunc fn first cap => (match fn, first.toList with
    | .func f, [] => (match capOK env cap.toList with | some l => K (.func (.func f) #[] l.toArray) | none => false)
    | _, _ => false)
  | .extract x i => won (opv env x) fun u => (match u with
    | .tuple vs => won (vs.toList[i]?) K
    | _ => false)
  | .build t ps => (match partsOK env ps.toList with | some l => wbuild T t l K | none => false)
  | .call c => (match c.callee with
    | .builtin b => (match vargs env c.args.toList with | some vs => wbuiltin A T b c.argTypes vs K | none => false)
    | _ => false)
  | _ => false

def wstore (T : Tab) (h : Heap) (nx : Nat) (t : TypeId) (x v : Value) (K : KEB) : Bool :=
  match x with
  | .pointer (some ⟨k, o, none⟩) =>
    (match look T t, look h k with
    | some ti, some (.cells true _ sz cs) =>
      (match Nat.beq v.cells.size ti.size, (match v with | .tuple _ => false | _ => true) with
      | true, true => wmust (Nat.ble (o + v.cells.size) cs.length) (K undef (upd h k (.cells true false sz (putN cs o v.cells.toList))) nx)
      | _, _ => false)
    | _, _ => false)
  | _ => false

def wbox (h : Heap) (nx : Nat) (v : Value) (K : KEB) : Bool :=
  match v with
  | .tuple _ => false
  | v => K (.pointer (some ⟨nx, 0, none⟩)) (upd h nx (.cells true false 1 v.cells.toList)) (nx + 1)

def walloc (T : Tab) (h : Heap) (nx : Nat) (t : TypeId) (K : KEB) : Bool :=
  match look T t with
  | some ti => K (.pointer (some ⟨nx, 0, none⟩)) (upd h nx (.cells true false 1 ti.zv.cells.toList)) (nx + 1)
  | none => false

def wbuildSlice (T : Tab) (h : Heap) (nx : Nat) (t : TypeId) (len : Nat) (ps : List (Nat × Value)) (K : KEB) : Bool :=
  match look T t with
  | some { kind := .sl e, .. } =>
    (match look T e with
    | some ei =>
      (match Nat.ble (len * ei.size) 1000000, aggParts ps with
      | true, true =>
        (match fillL (fun i => some (i * ei.size, ei.size)) ps (rep len ei.zv.cells.toList) with
        | some cells => K (.slice (some ⟨nx, 0, none⟩) len len) (upd h nx (.cells true false ei.size cells)) (nx + 1)
        | none => false)
      | _, _ => false)
    | none => false)
  | _ => false

def whi (A : Ar) (n c : Nat) (hi : Option Value) (G : Nat → Bool) : Bool :=
  match hi with
  | none => G n
  | some (.int _ i) => wmust (A.andB (A.le 0 i) (A.le i (A.num c))) (G (A.toN i))
  | _ => false

def wslice (A : Ar) (T : Tab) (h : Heap) (nx : Nat) (t : TypeId) (x : Value) (lo hi mx : Option Value) (K : KEB) : Bool :=
  match look T t with
  | some { kind := .sl e, .. } =>
    (match look T e with
    | none => false
    | some ei =>
      match x, mx with
      | .slice none 0 0, none => (match isZero lo, isZero hi with | true, true => K (.slice none 0 0) h nx | _, _ => false)
      | .slice (some ⟨k, o, none⟩) n c, none =>
        whi A n c hi fun hN =>
          (match lo with
          | none => K (.slice (some ⟨k, o, none⟩) hN c) h nx
          | some (.int _ l) => wmust (A.andB (A.andB (A.le 0 l) (A.le l (A.num hN))) (A.le (A.num hN) (A.num c)))
              (match look h k with
              | some (.cells _ _ _ _) => wmust (A.lt l (A.num c)) (K (.slice (some ⟨k, A.ix o l ei.size, none⟩) (A.subN hN (A.toN l)) (A.subN c (A.toN l))) h nx)
              | _ => false)
          | _ => false)
      | .slice (some ⟨k, o, none⟩) n c, some (.int _ 0) =>
        (match isZero lo, hi with | true, some (.int _ 0) => K (.slice (some ⟨nx, 0, none⟩) 0 0) (upd h nx .zero) (nx + 1) | _, _ => false)
      | .slice (some ⟨k, o, none⟩) n c, some (.int _ m) =>
        (match lo, hi with
        | some (.int _ l), some (.int _ u) => wmust (A.andB (A.andB (A.le 0 l) (A.le l u)) (A.andB (A.le u m) (A.andB (A.le 1 m) (A.le m (A.num c))))) (K (.slice (some ⟨nx, 0, none⟩) (A.subN (A.toN u) (A.toN l)) (A.subN (A.toN m) (A.toN l))) h (nx + 1))
        | _, _ => false)
      | _, _ => false)
  | _ => false

def wsrc (h : Heap) (sz : Nat) (x : Value) (G : Nat → List Value → Bool) : Bool :=
  match x with
  | .slice none 0 0 => G 0 []
  | .slice (some ⟨k, o, none⟩) m _ =>
    (match look h k with
    | some (.cells _ _ _ cs) => wmust (Nat.ble (o + m * sz) cs.length) (G m ((cs.drop o).take (m * sz)))
    | some .zero => (match m with | 0 => G 0 [] | _ => false)
    | _ => false)
  | _ => false

def wappend (A : Ar) (T : Tab) (h : Heap) (nx : Nat) (st xt : TypeId) (s x : Value) (K : KEB) : Bool :=
  match look T st, look T xt with
  | some { kind := .sl e, .. }, some { kind := .int _, .. } =>
    (match look T e with
    | some ei => (match s, x, Nat.ble ei.bytes 1000 with
      | .slice none 0 0, .int .i64 i, true => wmust (A.andB (A.lt 0 i) (A.le i 1000000000)) (K (.slice (some ⟨nx, 0, none⟩) (A.toN i) (A.toN i)) (upd h nx (.cells true false ei.size (rep (A.toN i) ei.zv.cells.toList))) (nx + 1))
      | _, _, _ => false)
    | none => false)
  | some { kind := .sl e, .. }, some { kind := .sl _, .. } =>
    (match look T e with
    | none => false
    | some ei =>
      match Nat.ble ei.bytes 1000 with
      | false => false
      | true =>
        wsrc h ei.size x fun m src =>
          (match s with
          | .slice none 0 0 => wbr (Nat.beq m 0) (fun _ => K (.slice none 0 0) h nx)
              (fun _ => wmust (Nat.ble m 1000000000) (K (.slice (some ⟨nx, 0, none⟩) m m) (upd h nx (.cells true false ei.size src)) (nx + 1)))
          | .slice (some ⟨k, o, none⟩) n c =>
            (match look h k with
            | some .zero => (match n, c with
              | 0, 0 => wbr (Nat.beq m 0) (fun _ => K (.slice (some ⟨k, o, none⟩) 0 0) h nx)
                  (fun _ => wmust (Nat.ble m 1000000000) (K (.slice (some ⟨nx, 0, none⟩) m m) (upd h nx (.cells true false ei.size src)) (nx + 1)))
              | _, _ => false)
            | some (.cells true _ sz cs) =>
              wbr (Nat.ble (n + m) c)
                (fun _ => wmust (Nat.ble (o + (n + m) * ei.size) cs.length) (K (.slice (some ⟨k, o, none⟩) (n + m) c) (upd h k (.cells true false sz (putN cs (o + n * ei.size) src))) nx))
                (fun _ => wmust (A.andB (A.andB (Nat.ble (n + m) 1000000000) (Nat.ble (o + n * ei.size) cs.length)) (A.andB (Nat.beq (o + c * ei.size) cs.length) (Nat.beq sz ei.size)))
                  (K (.slice (some ⟨nx, 0, none⟩) (n + m) (n + m)) (upd (rem h k) nx (.cells true false ei.size ((cs.drop o).take (n * ei.size) ++ src))) (nx + 1)))
            | _ => false)
          | _ => false))
  | _, _ => false

def wmakeMap (h : Heap) (nx : Nat) (K : KEB) : Bool := K (.map (some nx)) (upd h nx (.map [])) (nx + 1)

def wmakeSlice (A : Ar) (T : Tab) (h : Heap) (nx : Nat) (t : TypeId) (l c : Value) (K : KEB) : Bool :=
  match look T t, l, c with
  | some { kind := .sl e, .. }, .int .i64 i, .int .i64 j =>
    (match look T e with
    | some ei => wmust (A.andB (A.andB (A.le 0 i) (A.le i j)) (A.andB (A.le j 1000000000) (Nat.ble ei.bytes 1000)))
        (K (.slice (some ⟨nx, 0, none⟩) (A.toN i) (A.toN j)) (upd h nx (.cells true false ei.size (rep (A.toN j) ei.zv.cells.toList))) (nx + 1))
    | none => false)
  | _, _, _ => false

def wlookup (A : Ar) (T : Tab) (h : Heap) (t : TypeId) (x key : Value) (ok : Bool) (K : Value → Bool) : Bool :=
  match look T t, x, key with
  | some { kind := .mp kt et, .. }, .map (some k), .agg cs =>
    (match look T kt, look T et, look h k with
    | some { kind := .st fs, .. }, some ei, some (.map es) =>
      (match keyFields T cs.toList fs, allG cs.toList, vfind A T kt (.agg cs) es with
      | true, true, some r =>
        (match ok, r with
        | true, some v => K (.tuple #[v, .bool true])
        | true, none => K (.tuple #[ei.zv, .bool false])
        | false, some v => K v
        | false, none => K ei.zv)
      | _, _, _ => false)
    | _, _, _ => false)
  | _, _, _ => false

def wmapUpdate (A : Ar) (T : Tab) (h : Heap) (nx : Nat) (t : TypeId) (x key v : Value) (K : KEB) : Bool :=
  match look T t, x, key, (match v with | .agg _ => false | .tuple _ => false | _ => true) with
  | some { kind := .mp kt _, .. }, .map (some k), .agg cs, true =>
    (match look T kt, look h k with
    | some { kind := .st fs, .. }, some (.map es) =>
      (match keyFields T cs.toList fs, allG cs.toList, vfind A T kt (.agg cs) es with
      | true, true, some none => K undef (upd h k (.map (es ++ [(.agg cs, v)]))) nx
      | _, _, _ => false)
    | _, _ => false)
  | _, _, _, _ => false

def wclear (T : Tab) (h : Heap) (nx : Nat) (t : TypeId) (x : Value) (K : KEB) : Bool :=
  match look T t, x with
  | some { kind := .sl _, .. }, .slice none 0 0 => K (.tuple #[]) h nx
  | some { kind := .sl e, .. }, .slice (some ⟨k, o, none⟩) n _ =>
    (match n with
    | 0 => K (.tuple #[]) h nx
    | _ => (match look T e, look h k with
      | some ei, some (.cells true _ sz cs) => wmust (Nat.ble (o + n * ei.size) cs.length) (K (.tuple #[]) (upd h k (.cells true false sz (putN cs o (rep n ei.zv.cells.toList)))) nx)
      | _, _ => false))
  | _, _ => false

def wop (A : Ar) (T : Tab) (C : VCB) (Y : VCB) (env : List (Nat × Value)) (h : Heap) (nx : Nat) (op : Op) (K : KEB) : Bool :=
  match op with
  | .store t x y => won (opv env x) fun p => won (opv env y) fun v => wstore T h nx t p v K
  | .alloc t => walloc T h nx t K
  | .box _ x => won (opv env x) fun v => wbox h nx v K
  | .buildSlice t n ps => (match partsOK env ps.toList with | some l => wbuildSlice T h nx t n l K | none => false)
  | .slice t x lo hi mx => won (opv env x) fun v => (match optOK env lo, optOK env hi, optOK env mx with
    | some l, some u, some m => wslice A T h nx t v l u m K
    | _, _, _ => false)
  | .makeMap _ none => wmakeMap h nx K
  | .makeSlice t l c => won (opv env l) fun l => won (opv env c) fun c => wmakeSlice A T h nx t l c K
  | .lookup t m k ok => won (opv env m) fun x => won (opv env k) fun y => wlookup A T h t x y ok (fun v => K v h nx)
  | .mapUpdate t m k u => won (opv env m) fun x => won (opv env k) fun y => won (opv env u) fun v => wmapUpdate A T h nx t x y v K
  | .call c => (match c.callee with
    | .builtin .append => (match c.argTypes.toList, vargs env c.args.toList with | [st, xt], some [s, x] => wappend A T h nx st xt s x K | _, _ => false)
    | .builtin .clear => (match c.argTypes.toList, vargs env c.args.toList with | [t], some [x] => wclear T h nx t x K | _, _ => false)
    | .builtin _ => wlook A T env h op (fun v => K v h nx)
    | .value f => won (opv env f) fun fv => (match vargs env c.args.toList with
      | some l => (match fv with
        | .func (.func g) first cap => (match first.toList, capPtr cap.toList with
          | [], true => C g (l ++ cap.toList) h nx K
          | _, _ => false)
        | .func (.yield q) first _ => (match first.toList with
          | [] => Y q l h nx K
          | _ => false)
        | _ => false)
      | none => false)
    | _ => false)
  | _ => wlook A T env h op (fun v => K v h nx)

def wguard (A : Ar) (ops : List Oper) (env : List (Nat × Value)) (g : Option (Nat × Bool)) (Y N : List (Nat × Value) → Bool) : Bool :=
  match g with
  | none => Y env
  | some (j, want) => match getL ops j with
    | some o => (match o.dst with
      | some t => (match look env t with
        | some (.bool b) => wbr (A.eqB b want) (fun _ => Y (put env t (.bool want))) (fun _ => N (put env t (.bool (!want))))
        | some (.tuple _) => N env
        | _ => false)
      | none => false)
    | none => false

def wput (tn : Nat) (env : List (Nat × Value)) (dst : Option Nat) (v : Value) (K : List (Nat × Value) → Bool) : Bool :=
  match dst with
  | none => K env
  | some d => match Nat.blt d tn with | true => K (put env d v) | false => false

def wops (A : Ar) (T : Tab) (C : VCB) (Y : VCB) (tn : Nat) (ops : List Oper) : List Oper → List (Nat × Value) → Heap → Nat → KSB → Bool
  | [], env, h, nx, K => K env h nx
  | o :: r, env, h, nx, K => wguard A ops env o.guard
      (fun env => wop A T C Y env h nx o.op fun v h' nx' => wput tn env o.dst v fun env' => wops A T C Y tn ops r env' h' nx' K)
      (fun env => wput tn env o.dst undef fun env' => wops A T C Y tn ops r env' h nx K)

def wquiet (A : Ar) (T : Tab) (C : VCB) (hJ : Heap) (nx : Nat) (env : List (Nat × Value)) (op : Op) (K : Value → Bool) : Bool :=
  match op with
  | .load _ _ => wlook A T env hJ op K
  | .lookup t m k ok => won (opv env m) fun x => won (opv env k) fun y => wlookup A T hJ t x y ok K
  | .slice t x lo hi mx => won (opv env x) fun v => (match optOK env lo, optOK env hi, optOK env mx with
    | some l, some u, some m => wslice A T hJ nx t v l u m (fun v _ nx' => match Nat.beq nx' nx with | true => K v | false => false)
    | _, _, _ => false)
  | .call c => (match c.callee with
    | .builtin _ => wlook A T env [] op K
    | .value f => won (opv env f) fun fv => (match vargs env c.args.toList with
      | some l => (match fv with
        | .func (.func g) first cap => (match first.toList, capPtr cap.toList with
          | [], true => C g (l ++ cap.toList) (shutH hJ) nx (fun v _ _ => match gT v with | true => K v | false => false)
          | _, _ => false)
        | _ => false)
      | none => false)
    | _ => false)
  | _ => wlook A T env [] op K

def whead (A : Ar) (T : Tab) (C : VCB) (tn : Nat) (ops : List Oper) (hJ : Heap) (nx : Nat) : List Nat → List (Nat × Value) → (List (Nat × Value) → Bool) → Bool
  | [], env, K => K env
  | i :: r, env, K => match getL ops i with
    | none => false
    | some o => wguard A ops env o.guard
      (fun env => wquiet A T C hJ nx env o.op fun v => wput tn env o.dst v fun env => whead A T C tn ops hJ nx r env K)
      (fun env => wput tn env o.dst undef fun env => whead A T C tn ops hJ nx r env K)

def wallocs (T : Tab) (tn : Nat) (ops : List Oper) : List Nat → List (Nat × Value) → Heap → Nat → KSB → Bool
  | [], env, h, nx, K => K env h nx
  | i :: r, env, h, nx, K => match getL ops i with
    | some { op := .alloc t, dst := some d, .. } => (match look T t with
      | some ti => wput tn env (some d) (.pointer (some ⟨nx, 0, none⟩)) fun env => wallocs T tn ops r env (upd h nx (.cells true false 1 ti.zv.cells.toList)) (nx + 1) K
      | none => false)
    | _ => false

def wtail (A : Ar) (T : Tab) (C : VCB) (Y : VCB) (tn : Nat) (ops : List Oper) (hJ : Heap) : List (Nat × Bool) → List (Nat × Value) → Heap → Nat → KSB → Bool
  | [], env, h, nx, K => K env h nx
  | (i, chk) :: r, env, h, nx, K => match getL ops i with
    | none => false
    | some o => wguard A ops env o.guard
      (fun env => wmust (asideOK env hJ chk o.op) (wop A T C Y env h nx o.op fun v h' nx' => wput tn env o.dst v fun env' => wtail A T C Y tn ops hJ r env' h' nx' K))
      (fun env => wput tn env o.dst undef fun env' => wtail A T C Y tn ops hJ r env' h nx K)

def wregion (A : Ar) (T : Tab) (C : VCB) (Y : VCB) (tn : Nat) (ops : List Oper) (p : Plan) (env : List (Nat × Value)) (h : Heap) (nx : Nat) (K : KSB) : Bool :=
  whead A T C tn ops (asideHeap ops env p.tail h) nx p.head env fun env1 =>
    wallocs T tn ops p.allocs env1 h nx fun env2 h2 nx2 =>
      wtail A T C Y tn ops (asideHeap ops env p.tail h) p.tail env2 h2 nx2 K

def witer (F : KSB → KSB) : Nat → KSB
  | 0, _, _, _ => false
  | n + 1, e, h, nx => F (witer F n) e h nx

def wcode (A : Ar) (T : Tab) (C : VCB) (Y : VCB) (tn : Nat) (PL : Nat → Option Plan) (M : Nat) (R : VRB) : Code → KSB → (Nat → KSB) → KSB → KSB
  | .skip, kn, _, _ => kn
  | .region id ops draw, kn, _, _ => fun e h nx => match draw with
    | false => wops A T C Y tn ops.toList ops.toList e h nx kn
    | true => (match PL id with | some p => wregion A T C Y tn ops.toList p e h nx kn | none => false)
  | .seq a b, kn, kx, kr => wcode A T C Y tn PL M R a (wcode A T C Y tn PL M R b kn kx kr) kx kr
  | .cond c t f, kn, kx, kr => fun e h nx => match opv e c with
    | some (.bool b) => wbr b (fun _ => wcode A T C Y tn PL M R t kn kx kr e h nx) (fun _ => wcode A T C Y tn PL M R f kn kx kr e h nx)
    | _ => false
  | .block id b, kn, kx, kr => wcode A T C Y tn PL M R b kn (fun j => match Nat.beq j id with | true => kn | false => kx j) kr
  | .loop b, _, kx, kr => witer (fun k => wcode A T C Y tn PL M R b k kx kr) M
  | .rangeFunc g ps as bd, kn, kx, kr => R g ps as bd kn kx kr
  | .exit id, _, kx, _ => kx id
  | .ret, _, _, kr => kr
  | .label _, kn, _, _ => kn
  | .scope b, kn, kx, kr => wcode A T C Y tn PL M R b kn kx kr
  | _, _, _, _ => fun _ _ _ => false

def wresults (T : Tab) (e : List (Nat × Value)) (h : Heap) : List ResultVar → (List Value → Bool) → Bool
  | [], K => K []
  | .tmp t :: r, K => won (look e t) fun v => wresults T e h r fun l => K (v :: l)
  | .cell a t :: r, K => won (look e a) fun p => wload T h t p fun v => wresults T e h r fun l => K (v :: l)

def wend (T : Tab) (fn : Func) (K : KEB) : KSB := fun e h nx => wresults T e h fn.results.toList fun l =>
  match l with
  | [v] => K v h nx
  | l => match noTup l with | true => K (.tuple l.toArray) h nx | false => false

def wrange (C : VCB) (f tn : Nat) : VRB := fun g ps as bd kn kx kr e h nx =>
  won (opv e g) fun gv => match gv with
    | .func (.func q) first cap => (match first.toList, capPtr cap.toList with
      | [], true => C q (.func (.yield (nx + 1)) #[] #[] :: cap.toList)
          (upd (upd h nx .deferred) (nx + 1) (.loop { state := .ready, pending := none, fn := f, env := e, tn := tn, params := ps.toList, assign := as, body := bd, defers := nx })) (nx + 2) fun _ h' nx' =>
          (match look h' (nx + 1), look h' nx with
          | some (.loop l), some .deferred => (match l.state, l.pending with
            | .busy, _ => false
            | _, none => kn e (afterLoop h' nx) nx'
            | _, some (.exit id) => kx id e (afterLoop h' nx) nx'
            | _, some .ret => kr e (afterLoop h' nx) nx'
            | _, _ => false)
          | _, _ => false)
      | _, _ => false)
    | _ => false

def wnoRange : VRB := fun _ _ _ _ _ _ _ _ _ _ => false

def wfin (q : Nat) (K : KEB) (j : Option Code) : KSB := fun _ h nx =>
  match look h q with
  | some (.loop l) => K (.bool j.isNone) (upd h q (.loop { l with state := if j.isNone then .ready else .done, pending := j })) nx
  | _ => false

def wround (A : Ar) (T : Tab) (C : VCB) (Y : VCB) (PL : Nat → Nat → Option Plan) (M : Nat) : VCB := fun q args h nx K =>
  match look h q with
  | some (.loop l) => (match zipPut l.tn l.env l.params args, plansOK (PL l.fn) l.assign && plansOK (PL l.fn) l.body with
    | some e0, true => wcode A T C Y l.tn (PL l.fn) M wnoRange l.assign (fun e1 h1 nx1 =>
        match look h1 q with
        | some (.loop l1) => (match l1.state with
          | .ready => wcode A T C Y l.tn (PL l.fn) M wnoRange l.body (wfin q K none) (fun id => wfin q K (some (.exit id))) (wfin q K (some .ret)) e1 (upd h1 q (.loop { l1 with state := .busy })) nx1
          | _ => false)
        | _ => false) (fun _ _ _ _ => false) (fun _ _ _ => false) e0 h nx
    | _, _ => false)
  | _ => false

def wbody (c : Cfg) (XB : Nat → Option (List Value → Heap → Nat → KEB → Bool)) (M : Nat) (C : VCB) (Y : VCB) : VCB := fun f args h nx K =>
  match c.X f with
  | some _ => (match XB f with | some xb => xb args h nx K | none => false)
  | none => match c.FT f with
    | none => false
    | some fn => (match fn.body, Nat.ble args.length fn.ntmps with
      | some b, true =>
        let fin : KSB := wend c.T fn fun v h' nx' => K v (match c.PR f with | true => prune nx h' | false => h') nx'
        wcode c.A c.T C Y fn.ntmps (c.PL f) M (wrange C f fn.ntmps) b fin (fun _ _ _ _ => false) fin (initEnv 0 args) h nx
      | _, _ => false)

def wcall (c : Cfg) (XB : Nat → Option (List Value → Heap → Nat → KEB → Bool)) : Nat → Bool → VCB
  | 0, _ => fun _ _ _ _ _ => false
  | d + 1, false => wbody c XB c.M (wcall c XB d false) (wcall c XB d true)
  | d + 1, true => wround c.A c.T (wcall c XB d false) (wcall c XB d true) c.PL c.M

end Go.Aw
end

/-
  What is reckoned in truth values holds. No condition.
-/
set_option linter.unusedSimpArgs false
set_option linter.unusedVariables false
noncomputable section
namespace Go.Aw
open Go.RowKit

section
variable {A : Ar} {T : Tab} {K : Value → Bool} {K' : Value → Prop}
theorem won_tw {x : Option Value} (hK : ∀ v, K v = true → K' v) (hl : won x K = true) : on x K' := by
  cases x with
  | none => cases hl
  | some v => exact hK v hl
theorem wbr_tw {b : Bool} {X Y : Unit → Bool} {X' Y' : Unit → Prop} (h1 : X () = true → X' ()) (h2 : Y () = true → Y' ()) (hl : wbr b X Y = true) : br b X' Y' := by
  cases b with
  | true => exact h1 hl
  | false => exact h2 hl
theorem wmust_tw {b X : Bool} {X' : Prop} (h : X = true → X') (hl : wmust b X = true) : must b X' := by
  cases b with
  | true => exact h hl
  | false => cases hl
theorem wload_tw {h : Heap} {t : TypeId} {x : Value} (hK : ∀ v, K v = true → K' v) (hl : wload T h t x K = true) : vload T h t x K' := by
  unfold wload at hl; unfold vload
  repeat' (split at hl)
  all_goals first | (cases hl; done) | (simp_all; done)
theorem wfieldAddr_tw {t : TypeId} {x : Value} {f : Nat} (hK : ∀ v, K v = true → K' v) (hl : wfieldAddr T t x f K = true) : vfieldAddr T t x f K' := by
  unfold wfieldAddr at hl; unfold vfieldAddr
  repeat' (split at hl)
  all_goals first | (cases hl; done) | (simp_all; done)
theorem windexAddr_tw {t : TypeId} {x ix : Value} (hK : ∀ v, K v = true → K' v) (hl : windexAddr A T t x ix K = true) : vindexAddr A T t x ix K' := by
  unfold windexAddr at hl; unfold vindexAddr
  repeat' (split at hl)
  all_goals first | (cases hl; done) | (simp_all; exact wmust_tw (hK _) hl; done)
theorem wpart_tw {t : TypeId} {cs : List Value} {o : Nat} (hK : ∀ v, K v = true → K' v) (hl : wpart T t cs o K = true) : vpart T t cs o K' := by
  unfold wpart at hl; unfold vpart
  repeat' (split at hl)
  all_goals first | (cases hl; done) | (simp_all; done)
theorem wfield_tw {t : TypeId} {x : Value} {f : Nat} (hK : ∀ v, K v = true → K' v) (hl : wfield T t x f K = true) : vfield T t x f K' := by
  unfold wfield at hl; unfold vfield
  repeat' (split at hl)
  all_goals first | (cases hl; done) | (simp_all; exact wpart_tw hK hl; done)
theorem windex_tw {t : TypeId} {x ix : Value} (hK : ∀ v, K v = true → K' v) (hl : windex A T t x ix K = true) : vindex A T t x ix K' := by
  unfold windex at hl; unfold vindex
  repeat' (split at hl)
  all_goals first | (cases hl; done) | (simp_all; exact wmust_tw (wpart_tw hK) hl; done) | (simp_all; done)
theorem wint_tw {op : BinOp} {k : IntKind} {a b : Int} (hK : ∀ v, K v = true → K' v) (hl : wint A op k a b K = true) : vint A op k a b K' := by
  cases op <;> first | (cases hl; done) | exact hK _ hl | exact wmust_tw (hK _) hl
theorem wbin_tw {op : BinOp} {t : TypeId} {x y : Value} (hK : ∀ v, K v = true → K' v) (hl : wbin A T op t x y K = true) : vbin A T op t x y K' := by
  unfold wbin at hl; unfold vbin
  repeat' (split at hl)
  all_goals first | (cases hl; done) | (simp_all; done) | (simp_all; exact wint_tw hK hl; done)
theorem wnil_tw {op : BinOp} {h : Heap} {t : TypeId} {x : Value} (hK : ∀ v, K v = true → K' v) (hl : wnil T h op t x K = true) : vnil T h op t x K' := by
  unfold wnil at hl; unfold vnil
  repeat' (split at hl)
  all_goals first | (cases hl; done) | (simp_all; done)
theorem wun_tw {op : UnOp} {x : Value} (hK : ∀ v, K v = true → K' v) (hl : wun A op x K = true) : vun A op x K' := by
  unfold wun at hl; unfold vun
  repeat' (split at hl)
  all_goals first | (cases hl; done) | (simp_all; done) | (simp_all; exact wmust_tw (hK _) hl; done)
theorem wbuild_tw {t : TypeId} {ps : List (Nat × Value)} (hK : ∀ v, K v = true → K' v) (hl : wbuild T t ps K = true) : vbuild T t ps K' := by
  unfold wbuild at hl; unfold vbuild
  cases ht : look T t with
  | none => simp only [ht] at hl; cases hl
  | some ti =>
    simp only [ht] at hl ⊢
    cases hk : ti.kind <;> simp only [hk] at hl ⊢ <;> cases hp : aggParts ps <;> (try simp only [hp] at hl ⊢)
    all_goals first
      | (simp at hl; done)
      | (split at hl <;> first | (cases hl; done) | (split at hl <;> first | (cases hl; done) | (simp only [*]; first | done | exact hK _ hl)))
theorem wbuiltin_tw {b : Builtin} {ts : Array TypeId} {vs : List Value} (hK : ∀ v, K v = true → K' v) (hl : wbuiltin A T b ts vs K = true) : vbuiltin A T b ts vs K' := by
  unfold wbuiltin at hl; unfold vbuiltin
  repeat' (split at hl)
  all_goals first | (cases hl; done) | (simp_all; done) | (simp_all; exact won_tw hK hl; done)
theorem wlook_tw {env : List (Nat × Value)} {h : Heap} {op : Op} (hK : ∀ v, K v = true → K' v) (hl : wlook A T env h op K = true) : vlook A T env h op K' := by
  cases op with
  | move x => exact won_tw hK hl
  | assign x => exact won_tw hK hl
  | pick c a b =>
    refine won_tw (fun u hu => ?_) hl
    split at hu
    · first | exact wbr_tw (won_tw hK) (won_tw hK) hu | (simp only [*]; exact wbr_tw (won_tw hK) (won_tw hK) hu) | (simp only [*]; done)
    · cases hu
  | nilCheck x =>
    first | refine won_tw (fun u hu => ?_) hl | (simp only [*]; refine won_tw (fun u hu => ?_) hl) | (simp only [*]; done)
    split at hu
    · first | exact hK _ hu | (simp only [*]; exact hK _ hu) | (simp only [*]; done)
    · first | exact hK _ hu | (simp only [*]; exact hK _ hu) | (simp only [*]; done)
    · first | exact hK _ hu | (simp only [*]; exact hK _ hu) | (simp only [*]; done)
    · cases hu
  | load t x => exact won_tw (fun u => wload_tw hK) hl
  | fieldAddr s x f => exact won_tw (fun u => wfieldAddr_tw hK) hl
  | field s x f => exact won_tw (fun u => wfield_tw hK) hl
  | indexAddr t x i => exact won_tw (fun u => won_tw fun j => windexAddr_tw hK) hl
  | index t x i => exact won_tw (fun u => won_tw fun j => windex_tw hK) hl
  | binOp op t x y z =>
    refine won_tw (fun u => won_tw fun v hl => ?_) hl
    split at hl
    · exact wnil_tw hK hl
    · rename_i hne
      split
      · exact (hne _ _ rfl).elim
      · exact wbin_tw hK hl
  | unOp op t x => exact won_tw (fun u => wun_tw hK) hl
  | convert s d x =>
    first | refine won_tw (fun u hu => ?_) hl | (simp only [*]; refine won_tw (fun u hu => ?_) hl) | (simp only [*]; done)
    split at hu
    · first | exact wmust_tw (hK _) hu | (simp only [*]; exact wmust_tw (hK _) hu) | (simp only [*]; done)
    · cases hu
  | makeFunc fn first cap =>
    simp only [wlook] at hl; simp only [vlook]
    repeat' (split at hl)
    all_goals first | (cases hl; done) | (simp_all; done)
  | extract x i =>
    first | refine won_tw (fun u hu => ?_) hl | (simp only [*]; refine won_tw (fun u hu => ?_) hl) | (simp only [*]; done)
    split at hu
    · first | exact won_tw hK hu | (simp only [*]; exact won_tw hK hu) | (simp only [*]; done)
    · cases hu
  | build t ps =>
    simp only [wlook] at hl; simp only [vlook]
    split at hl
    · first | exact wbuild_tw hK hl | (simp only [*]; exact wbuild_tw hK hl) | (simp only [*]; done)
    · cases hl
  | call c =>
    simp only [wlook] at hl; simp only [vlook]
    split at hl
    · split at hl
      · first | exact wbuiltin_tw hK hl | (simp only [*]; exact wbuiltin_tw hK hl) | (simp only [*]; done)
      · cases hl
    · cases hl
  | _ => cases hl
theorem wlookup_tw {h : Heap} {t : TypeId} {x key : Value} {ok : Bool} (hK : ∀ v, K v = true → K' v) (hl : wlookup A T h t x key ok K = true) : vlookup A T h t x key ok K' := by
  unfold wlookup at hl; unfold vlookup
  repeat' (split at hl)
  all_goals first | (cases hl; done) | (simp_all; done)
end

section
variable {A : Ar} {T : Tab} {K : KEB} {K' : KE} {h : Heap} {nx : Nat}
theorem wstore_tw {t : TypeId} {x v : Value} (hK : ∀ v h nx, K v h nx = true → K' v h nx) (hl : wstore T h nx t x v K = true) : vstore T h nx t x v K' := by
  unfold wstore at hl; unfold vstore
  split at hl
  case h_2 => cases hl
  split at hl
  case h_2 => cases hl
  cases v <;> (split at hl <;> first | (cases hl; done) | (simp only [*]; first | done | exact wmust_tw (hK _ _ _) hl) | (rename_i hq; cases hq))
theorem wbox_tw {v : Value} (hK : ∀ v h nx, K v h nx = true → K' v h nx) (hl : wbox h nx v K = true) : vbox h nx v K' := by
  unfold wbox at hl; unfold vbox
  split at hl
  · cases hl
  · first | exact hK _ _ _ hl | (simp only [*]; exact hK _ _ _ hl) | (simp only [*]; done)
theorem walloc_tw {t : TypeId} (hK : ∀ v h nx, K v h nx = true → K' v h nx) (hl : walloc T h nx t K = true) : valloc T h nx t K' := by
  unfold walloc at hl; unfold valloc
  split at hl
  · first | exact hK _ _ _ hl | (simp only [*]; exact hK _ _ _ hl) | (simp only [*]; done)
  · cases hl
theorem wbuildSlice_tw {t : TypeId} {n : Nat} {ps : List (Nat × Value)} (hK : ∀ v h nx, K v h nx = true → K' v h nx) (hl : wbuildSlice T h nx t n ps K = true) : vbuildSlice T h nx t n ps K' := by
  unfold wbuildSlice at hl; unfold vbuildSlice
  split at hl
  case h_2 => cases hl
  split at hl
  case h_2 => cases hl
  split at hl
  case h_2 => cases hl
  split at hl
  case h_2 => cases hl
  first | exact hK _ _ _ hl | (simp only [*]; exact hK _ _ _ hl) | (simp only [*]; done)
theorem whi_tw {n c : Nat} {hi : Option Value} {G : Nat → Bool} {G' : Nat → Prop} (hG : ∀ n, G n = true → G' n) (hl : whi A n c hi G = true) : vhi A n c hi G' := by
  unfold whi at hl; unfold vhi
  split at hl
  · first | exact hG _ hl | (simp only [*]; exact hG _ hl) | (simp only [*]; done)
  · first | exact wmust_tw (hG _) hl | (simp only [*]; exact wmust_tw (hG _) hl) | (simp only [*]; done)
  · cases hl
theorem wmust_br {b X : Bool} {X' : Unit → Prop} {Y' : Unit → Prop} (h : X = true → X' ()) (hl : wmust b X = true) : br b X' Y' := by
  cases b with
  | true => exact h hl
  | false => cases hl
theorem wslice_tw {t : TypeId} {x : Value} {lo hi mx : Option Value} (hK : ∀ v h nx, K v h nx = true → K' v h nx) (hl : wslice A T h nx t x lo hi mx K = true) : vslice A T h nx t x lo hi mx K' := by
  unfold wslice at hl; unfold vslice
  split at hl
  case h_2 => cases hl
  split at hl
  case h_1 => cases hl
  split at hl
  · split at hl
    · first | exact hK _ _ _ hl | (simp only [*]; exact hK _ _ _ hl) | (simp only [*]; done)
    · cases hl
  · first | refine whi_tw (fun hN hl => ?_) hl | (simp only [*]; refine whi_tw (fun hN hl => ?_) hl) | (simp only [*]; done)
    split at hl
    · first | exact hK _ _ _ hl | (simp only [*]; exact hK _ _ _ hl) | (simp only [*]; done)
    · first | refine wmust_tw (fun hl => ?_) hl | (simp only [*]; refine wmust_tw (fun hl => ?_) hl) | (simp only [*]; done)
      split at hl
      · first | exact wmust_br (hK _ _ _) hl | (simp only [*]; exact wmust_br (hK _ _ _) hl) | (simp only [*]; done)
      · cases hl
    · cases hl
  · split at hl
    · first | exact hK _ _ _ hl | (simp only [*]; exact hK _ _ _ hl) | (simp only [*]; done)
    · cases hl
  · split at hl
    · first | exact wmust_tw (hK _ _ _) hl | (simp only [*]; exact wmust_tw (hK _ _ _) hl)
    · cases hl
  · cases hl
theorem wsrc_tw {sz : Nat} {x : Value} {G : Nat → List Value → Bool} {G' : Nat → List Value → Prop} (hG : ∀ n l, G n l = true → G' n l) (hl : wsrc h sz x G = true) : vsrc h sz x G' := by
  unfold wsrc at hl; unfold vsrc
  split at hl
  · first | exact hG _ _ hl | (simp only [*]; exact hG _ _ hl) | (simp only [*]; done)
  · split at hl
    · first | exact wmust_tw (hG _ _) hl | (simp only [*]; exact wmust_tw (hG _ _) hl) | (simp only [*]; done)
    · split at hl
      · first | exact hG _ _ hl | (simp only [*]; exact hG _ _ hl) | (simp only [*]; done)
      · cases hl
    · cases hl
  · cases hl
theorem wmakeSlice_tw {t : TypeId} {l c : Value} (hK : ∀ v h nx, K v h nx = true → K' v h nx) (hl : wmakeSlice A T h nx t l c K = true) : vmakeSlice A T h nx t l c K' := by
  unfold wmakeSlice at hl; unfold vmakeSlice
  split at hl
  case h_2 => cases hl
  split at hl
  case h_2 => cases hl
  first | exact wmust_tw (hK _ _ _) hl | (simp only [*]; exact wmust_tw (hK _ _ _) hl)
theorem wappend_tw {st xt : TypeId} {s x : Value} (hK : ∀ v h nx, K v h nx = true → K' v h nx) (hl : wappend A T h nx st xt s x K = true) : vappend A T h nx st xt s x K' := by
  unfold wappend at hl; unfold vappend
  split at hl
  case h_3 => cases hl
  case h_1 =>
    split at hl
    case h_2 => cases hl
    split at hl
    case h_2 => cases hl
    first | exact wmust_tw (hK _ _ _) hl | (simp only [*]; exact wmust_tw (hK _ _ _) hl)
  split at hl
  case h_1 => cases hl
  split at hl
  case h_1 => cases hl
  first | refine wsrc_tw (fun m src hl => ?_) hl | (simp only [*]; refine wsrc_tw (fun m src hl => ?_) hl) | (simp only [*]; done)
  split at hl
  · first | exact wbr_tw (hK _ _ _) (wmust_tw (hK _ _ _)) hl | (simp only [*]; exact wbr_tw (hK _ _ _) (wmust_tw (hK _ _ _)) hl) | (simp only [*]; done)
  · split at hl
    · split at hl
      · first | exact wbr_tw (hK _ _ _) (wmust_tw (hK _ _ _)) hl | (simp only [*]; exact wbr_tw (hK _ _ _) (wmust_tw (hK _ _ _)) hl) | (simp only [*]; done)
      · cases hl
    · first | exact wbr_tw (wmust_tw (hK _ _ _)) (wmust_tw (hK _ _ _)) hl | (simp only [*]; exact wbr_tw (wmust_tw (hK _ _ _)) (wmust_tw (hK _ _ _)) hl) | (simp only [*]; done)
    · cases hl
  · cases hl
theorem wmapUpdate_tw {t : TypeId} {x key v : Value} (hK : ∀ v h nx, K v h nx = true → K' v h nx) (hl : wmapUpdate A T h nx t x key v K = true) : vmapUpdate A T h nx t x key v K' := by
  unfold wmapUpdate at hl; unfold vmapUpdate
  cases v <;> (split at hl <;> first | (cases hl; done) | (rename_i hq; cases hq; done) | (split at hl <;> first | (cases hl; done) | (split at hl <;> first | (cases hl; done) | (simp only [*]; first | done | exact hK _ _ _ hl))))
theorem wclear_tw {t : TypeId} {x : Value} (hK : ∀ v h nx, K v h nx = true → K' v h nx) (hl : wclear T h nx t x K = true) : vclear T h nx t x K' := by
  unfold wclear at hl; unfold vclear
  split at hl
  · first | exact hK _ _ _ hl | (simp only [*]; exact hK _ _ _ hl) | (simp only [*]; done)
  · split at hl
    · first | exact hK _ _ _ hl | (simp only [*]; exact hK _ _ _ hl) | (simp only [*]; done)
    · split at hl
      · first | exact wmust_tw (hK _ _ _) hl | (simp only [*]; exact wmust_tw (hK _ _ _) hl) | (simp only [*]; done)
      · cases hl
  · cases hl

def Tw (C : VCB) (C' : VC) : Prop := ∀ f args h nx (K : KEB) (K' : KE), (∀ v h nx, K v h nx = true → K' v h nx) → C f args h nx K = true → C' f args h nx K'
variable {C Y : VCB} {C' Y' : VC}

theorem wop_tw (hC : Tw C C') (hY : Tw Y Y') {env : List (Nat × Value)} {op : Op} (hK : ∀ v h nx, K v h nx = true → K' v h nx) (hl : wop A T C Y env h nx op K = true) : vop A T C' Y' env h nx op K' := by
  cases op with
  | store t x y => exact won_tw (fun p => won_tw fun v => wstore_tw hK) hl
  | alloc t => exact walloc_tw hK hl
  | box t x => exact won_tw (fun p => wbox_tw hK) hl
  | buildSlice t n ps =>
    simp only [wop] at hl; simp only [vop]
    split at hl
    · first | exact wbuildSlice_tw hK hl | (simp only [*]; exact wbuildSlice_tw hK hl) | (simp only [*]; done)
    · cases hl
  | slice t x lo hi mx =>
    first | refine won_tw (fun v hl => ?_) hl | (simp only [*]; refine won_tw (fun v hl => ?_) hl) | (simp only [*]; done)
    split at hl
    · first | exact wslice_tw hK hl | (simp only [*]; exact wslice_tw hK hl) | (simp only [*]; done)
    · cases hl
  | makeSlice t l c => exact won_tw (fun p => won_tw fun v => wmakeSlice_tw hK) hl
  | makeMap t x =>
    cases x with
    | none => exact hK _ _ _ hl
    | some x => simp [wop, wlook] at hl
  | lookup t m k ok => exact won_tw (fun x => won_tw fun y => wlookup_tw fun v => hK v h nx) hl
  | mapUpdate t m k u => exact won_tw (fun x => won_tw fun y => won_tw fun v => wmapUpdate_tw hK) hl
  | call c =>
    simp only [wop] at hl; simp only [vop]
    split at hl
    · split at hl
      · first | exact wappend_tw hK hl | (simp only [*]; exact wappend_tw hK hl) | (simp only [*]; done)
      · cases hl
    · split at hl
      · first | exact wclear_tw hK hl | (simp only [*]; exact wclear_tw hK hl) | (simp only [*]; done)
      · cases hl
    · first | exact wlook_tw (K' := fun v => K' v h nx) (fun v => hK v h nx) hl | (simp only [*]; exact wlook_tw (K' := fun v => K' v h nx) (fun v => hK v h nx) hl) | (simp only [*]; done)
    · first | refine won_tw (fun fv hl => ?_) hl | (simp only [*]; refine won_tw (fun fv hl => ?_) hl) | (simp only [*]; done)
      split at hl
      case h_2 => cases hl
      split at hl
      · split at hl
        · first | exact hC _ _ _ _ _ _ hK hl | (simp only [*]; exact hC _ _ _ _ _ _ hK hl) | (simp only [*]; done)
        · cases hl
      · split at hl
        · first | exact hY _ _ _ _ _ _ hK hl | (simp only [*]; exact hY _ _ _ _ _ _ hK hl) | (simp only [*]; done)
        · cases hl
      · cases hl
    · cases hl
  | _ => simp only [wop] at hl; exact wlook_tw (K' := fun v => K' v h nx) (fun v => hK v h nx) hl
theorem wguard_tw {ops : List Oper} {env : List (Nat × Value)} {g : Option (Nat × Bool)} {F G : List (Nat × Value) → Bool} {F' G' : List (Nat × Value) → Prop} (h1 : ∀ e, F e = true → F' e) (h2 : ∀ e, G e = true → G' e) (hl : wguard A ops env g F G = true) : vguard A ops env g F' G' := by
  unfold wguard at hl; unfold vguard
  split at hl
  · first | exact h1 _ hl | (simp only [*]; exact h1 _ hl) | (simp only [*]; done)
  · split at hl
    · split at hl
      · split at hl
        · first | exact wbr_tw (h1 _) (h2 _) hl | (simp only [*]; exact wbr_tw (h1 _) (h2 _) hl) | (simp only [*]; done)
        · first | exact h2 _ hl | (simp only [*]; exact h2 _ hl) | (simp only [*]; done)
        · cases hl
      · cases hl
    · cases hl
theorem wput_tw {tn : Nat} {env : List (Nat × Value)} {dst : Option Nat} {v : Value} {F : List (Nat × Value) → Bool} {F' : List (Nat × Value) → Prop} (h1 : ∀ e, F e = true → F' e) (hl : wput tn env dst v F = true) : vput tn env dst v F' := by
  unfold wput at hl; unfold vput
  split at hl
  · first | exact h1 _ hl | (simp only [*]; exact h1 _ hl) | (simp only [*]; done)
  · split at hl
    · first | exact h1 _ hl | (simp only [*]; exact h1 _ hl) | (simp only [*]; done)
    · cases hl
theorem wops_tw (hC : Tw C C') (hY : Tw Y Y') {tn : Nat} {ops : List Oper} {F : KSB} {F' : KS} (hF : ∀ e h nx, F e h nx = true → F' e h nx) : ∀ (l : List Oper) env h nx, wops A T C Y tn ops l env h nx F = true → vops A T C' Y' tn ops l env h nx F'
  | [], _, _, _, hl => hF _ _ _ hl
  | o :: r, env, h, nx, hl => wguard_tw (fun e => wop_tw hC hY fun v h' nx' => wput_tw fun e' => wops_tw hC hY hF r e' h' nx') (fun e => wput_tw fun e' => wops_tw hC hY hF r e' h nx) hl
theorem wquiet_tw (hC : Tw C C') {env : List (Nat × Value)} {op : Op} {K : Value → Bool} {K' : Value → Nat → Prop} (hK : ∀ v, K v = true → K' v nx) (hl : wquiet A T C h nx env op K = true) : vquiet A T C' h nx env op K' := by
  cases op with
  | load t x => simp only [wquiet] at hl; exact wlook_tw hK hl
  | lookup t m k ok => exact won_tw (fun x => won_tw fun y => wlookup_tw hK) hl
  | slice t x lo hi mx =>
    refine won_tw (fun v hl => ?_) hl
    split at hl
    · first | refine wslice_tw (fun v h' nx' hl => ?_) hl | (simp only [*]; refine wslice_tw (fun v h' nx' hl => ?_) hl) | (simp only [*]; done)
      split at hl
      · rename_i hb; rw [beq_true hb]; exact hK _ hl
      · cases hl
    · cases hl
  | call c =>
    simp only [wquiet] at hl; simp only [vquiet]
    split at hl
    · first | exact wlook_tw hK hl | (simp only [*]; exact wlook_tw hK hl) | (simp only [*]; done)
    · first | refine won_tw (fun fv hl => ?_) hl | (simp only [*]; refine won_tw (fun fv hl => ?_) hl) | (simp only [*]; done)
      split at hl
      case h_2 => cases hl
      split at hl
      · split at hl
        · first | refine hC _ _ _ _ _ _ (fun v h' nx' hl => ?_) hl | (simp only [*]; refine hC _ _ _ _ _ _ (fun v h' nx' hl => ?_) hl) | (simp only [*]; done)
          split at hl
          · rename_i hb; simp only [hb]; exact hK _ hl
          · cases hl
        · cases hl
      · cases hl
    · cases hl
  | _ => simp only [wquiet] at hl; exact wlook_tw hK hl
theorem whead_tw (hC : Tw C C') {tn : Nat} {ops : List Oper} {F : List (Nat × Value) → Bool} {F' : List (Nat × Value) → Nat → Prop} (hF : ∀ e, F e = true → F' e nx) : ∀ (l : List Nat) env, whead A T C tn ops h nx l env F = true → vhead A T C' tn ops h l env nx F'
  | [], _, hl => hF _ hl
  | i :: r, env, hl => by
    simp only [whead] at hl; simp only [vhead_cons]
    split at hl
    · cases hl
    · first | exact wguard_tw (fun e => wquiet_tw hC fun v => wput_tw fun e' => whead_tw hC hF r e') (fun e => wput_tw fun e' => whead_tw hC hF r e') hl | (simp only [*]; exact wguard_tw (fun e => wquiet_tw hC fun v => wput_tw fun e' => whead_tw hC hF r e') (fun e => wput_tw fun e' => whead_tw hC hF r e') hl) | (simp only [*]; done)
theorem wallocs_tw {tn : Nat} {ops : List Oper} {F : KSB} {F' : KS} (hF : ∀ e h nx, F e h nx = true → F' e h nx) : ∀ (l : List Nat) env h nx, wallocs T tn ops l env h nx F = true → vallocs T tn ops l env h nx F'
  | [], _, _, _, hl => hF _ _ _ hl
  | i :: r, env, h, nx, hl => by
    simp only [wallocs] at hl; simp only [vallocs_cons]
    split at hl
    · split at hl
      · first | exact wput_tw (fun e' => wallocs_tw hF r e' _ _) hl | (simp only [*]; exact wput_tw (fun e' => wallocs_tw hF r e' _ _) hl) | (simp only [*]; done)
      · cases hl
    · cases hl
theorem wtail_tw (hC : Tw C C') (hY : Tw Y Y') {tn : Nat} {ops : List Oper} {hJ : Heap} {F : KSB} {F' : KS} (hF : ∀ e h nx, F e h nx = true → F' e h nx) : ∀ (l : List (Nat × Bool)) env h nx, wtail A T C Y tn ops hJ l env h nx F = true → vtail A T C' Y' tn ops hJ l env h nx F'
  | [], _, _, _, hl => hF _ _ _ hl
  | (i, chk) :: r, env, h, nx, hl => by
    simp only [wtail] at hl; simp only [vtail_cons]
    split at hl
    · cases hl
    · first | exact wguard_tw (fun e => wmust_tw (wop_tw hC hY fun v h' nx' => wput_tw fun e' => wtail_tw hC hY hF r e' h' nx')) (fun e => wput_tw fun e' => wtail_tw hC hY hF r e' h nx) hl | (simp only [*]; exact wguard_tw (fun e => wmust_tw (wop_tw hC hY fun v h' nx' => wput_tw fun e' => wtail_tw hC hY hF r e' h' nx')) (fun e => wput_tw fun e' => wtail_tw hC hY hF r e' h nx) hl) | (simp only [*]; done)
theorem wregion_tw (hC : Tw C C') (hY : Tw Y Y') {tn : Nat} {ops : List Oper} {p : Plan} {env : List (Nat × Value)} {F : KSB} {F' : KS} (hF : ∀ e h nx, F e h nx = true → F' e h nx) (hl : wregion A T C Y tn ops p env h nx F = true) : vregion A T C' Y' tn ops p env h nx F' :=
  whead_tw hC (fun e => wallocs_tw (fun e h nx => wtail_tw hC hY hF p.tail e h nx) p.allocs e h nx) p.head env hl

def TwR (R : VRB) (R' : VR) : Prop := ∀ g ps as bd (kn : KSB) (kx : Nat → KSB) (kr : KSB) (kn' : KS) (kx' : Nat → KS) (kr' : KS) e h nx, (∀ e h nx, kn e h nx = true → kn' e h nx) → (∀ i e h nx, kx i e h nx = true → kx' i e h nx) → (∀ e h nx, kr e h nx = true → kr' e h nx) → R g ps as bd kn kx kr e h nx = true → R' g ps as bd kn' kx' kr' e h nx

theorem witer_tw {F : KSB → KSB} {F' : KS → KS} (hF : ∀ (k : KSB) (k' : KS) e h nx, (∀ e h nx, k e h nx = true → k' e h nx) → F k e h nx = true → F' k' e h nx) : ∀ n e h nx, witer F n e h nx = true → viter F' n e h nx
  | 0, _, _, _, hl => by cases hl
  | n + 1, e, h, nx, hl => hF _ _ e h nx (fun e h nx => witer_tw hF n e h nx) hl

theorem wcode_tw (hC : Tw C C') (hY : Tw Y Y') {tn : Nat} {PL : Nat → Option Plan} {n : Nat} {R : VRB} {R' : VR} (hR : TwR R R') : ∀ (c : Code) (kn : KSB) (kx : Nat → KSB) (kr : KSB) (kn' : KS) (kx' : Nat → KS) (kr' : KS) e h nx, (∀ e h nx, kn e h nx = true → kn' e h nx) → (∀ i e h nx, kx i e h nx = true → kx' i e h nx) → (∀ e h nx, kr e h nx = true → kr' e h nx) →
    wcode A T C Y tn PL n R c kn kx kr e h nx = true → vcode A T C' Y' tn PL (.fuel n) R' c kn' kx' kr' e h nx := by
  intro c
  induction c with
  | skip => exact fun kn kx kr kn' kx' kr' e h nx h1 _ _ hl => h1 _ _ _ hl
  | region id ops draw =>
    intro kn kx kr kn' kx' kr' e h nx h1 _ _ hl
    simp only [wcode] at hl; simp only [vcode_region, vcode_cond]
    cases draw with
    | false => exact wops_tw hC hY h1 _ _ _ _ hl
    | true =>
      simp only at hl ⊢
      split at hl
      · first | exact wregion_tw hC hY h1 hl | (simp only [*]; exact wregion_tw hC hY h1 hl) | (simp only [*]; done)
      · cases hl
  | seq a b iha ihb => exact fun kn kx kr kn' kx' kr' e h nx h1 h2 h3 hl => iha _ kx kr _ kx' kr' e h nx (fun e h nx => ihb kn kx kr kn' kx' kr' e h nx h1 h2 h3) h2 h3 hl
  | cond c t f iht ihf =>
    intro kn kx kr kn' kx' kr' e h nx h1 h2 h3 hl
    simp only [wcode] at hl; simp only [vcode_region, vcode_cond]
    split at hl
    · first | exact wbr_tw (iht kn kx kr kn' kx' kr' e h nx h1 h2 h3) (ihf kn kx kr kn' kx' kr' e h nx h1 h2 h3) hl | (simp only [*]; exact wbr_tw (iht kn kx kr kn' kx' kr' e h nx h1 h2 h3) (ihf kn kx kr kn' kx' kr' e h nx h1 h2 h3) hl) | (simp only [*]; done)
    · cases hl
  | block id b ih =>
    intro kn kx kr kn' kx' kr' e h nx h1 h2 h3 hl
    first | refine ih kn _ kr kn' _ kr' e h nx h1 (fun j e h nx hk => ?_) h3 hl | (simp only [*]; refine ih kn _ kr kn' _ kr' e h nx h1 (fun j e h nx hk => ?_) h3 hl) | (simp only [*]; done)
    cases hb : Nat.beq j id with
    | true => simp only [hb] at hk ⊢; exact h1 _ _ _ hk
    | false => simp only [hb] at hk ⊢; exact h2 _ _ _ _ hk
  | loop b ih =>
    intro kn kx kr kn' kx' kr' e h nx h1 h2 h3 hl
    first | exact witer_tw (fun k k' e h nx hk => ih k kx kr k' kx' kr' e h nx hk h2 h3) n e h nx hl | (simp only [*]; exact witer_tw (fun k k' e h nx hk => ih k kx kr k' kx' kr' e h nx hk h2 h3) n e h nx hl) | (simp only [*]; done)
  | rangeFunc g ps as bd _ _ => exact fun kn kx kr kn' kx' kr' e h nx h1 h2 h3 hl => hR g ps as bd kn kx kr kn' kx' kr' e h nx h1 h2 h3 hl
  | exit id => exact fun kn kx kr kn' kx' kr' e h nx _ h2 _ hl => h2 _ _ _ _ hl
  | ret => exact fun kn kx kr kn' kx' kr' e h nx _ _ h3 hl => h3 _ _ _ hl
  | label l => exact fun kn kx kr kn' kx' kr' e h nx h1 _ _ hl => h1 _ _ _ hl
  | scope b ih => exact fun kn kx kr kn' kx' kr' e h nx h1 h2 h3 hl => ih kn kx kr kn' kx' kr' e h nx h1 h2 h3 hl
  | goto l => exact fun _ _ _ _ _ _ _ _ _ _ _ _ hl => by cases hl
  | refuse s => exact fun _ _ _ _ _ _ _ _ _ _ _ _ hl => by cases hl

theorem wresults_tw {e : List (Nat × Value)} : ∀ (l : List ResultVar) {F : List Value → Bool} {F' : List Value → Prop}, (∀ l, F l = true → F' l) → wresults T e h l F = true → vresults T e h l F'
  | [], F, F', hF, hl => hF _ hl
  | .tmp t :: r, F, F', hF, hl => won_tw (fun v => wresults_tw r fun l => hF _) hl
  | .cell a t :: r, F, F', hF, hl => won_tw (fun p => wload_tw fun v => wresults_tw r fun l => hF _) hl
theorem wend_tw {fn : Func} (hK : ∀ v h nx, K v h nx = true → K' v h nx) (e : List (Nat × Value)) (h : Heap) (nx : Nat) (hl : wend T fn K e h nx = true) : vend T fn K' e h nx := by
  refine wresults_tw _ (fun l hl => ?_) hl
  split at hl
  · first | exact hK _ _ _ hl | (simp only [*]; exact hK _ _ _ hl) | (simp only [*]; done)
  · split at hl
    · rename_i hn; simp only [hn]; exact hK _ _ _ hl
    · cases hl
theorem wrange_tw (hC : Tw C C') {f tn : Nat} : TwR (wrange C f tn) (vrange C' f tn) := by
  intro g ps as bd kn kx kr kn' kx' kr' e h nx h1 h2 h3 hl
  refine won_tw (fun gv hl => ?_) hl
  split at hl
  case h_2 => cases hl
  split at hl
  case h_2 => cases hl
  first | refine hC _ _ _ _ _ _ (fun v h' nx' hl => ?_) hl | (simp only [*]; refine hC _ _ _ _ _ _ (fun v h' nx' hl => ?_) hl) | (simp only [*]; done)
  split at hl
  case h_2 => cases hl
  rename_i l hl1 hl2
  split at hl
  · cases hl
  · first | exact h1 _ _ _ hl | (simp only [*]; exact h1 _ _ _ hl) | (simp only [*]; done)
  · first | exact h2 _ _ _ _ hl | (simp only [*]; exact h2 _ _ _ _ hl) | (simp only [*]; done)
  · first | exact h3 _ _ _ hl | (simp only [*]; exact h3 _ _ _ hl) | (simp only [*]; done)
  · cases hl
theorem wfin_tw {q : Nat} (hK : ∀ v h nx, K v h nx = true → K' v h nx) {j : Option Code} (e : List (Nat × Value)) (h : Heap) (nx : Nat) (hl : wfin q K j e h nx = true) : vfin q K' j e h nx := by
  unfold wfin at hl; unfold vfin
  split at hl
  · first | exact hK _ _ _ hl | (simp only [*]; exact hK _ _ _ hl) | (simp only [*]; done)
  · cases hl
theorem wround_tw (hC : Tw C C') (hY : Tw Y Y') {PL : Nat → Nat → Option Plan} {n : Nat} : Tw (wround A T C Y PL n) (vround A T C' Y' PL (.fuel n)) := by
  intro q args h nx K K' hK hl
  unfold wround at hl; unfold vround
  split at hl
  case h_2 => cases hl
  split at hl
  case h_2 => cases hl
  first | refine wcode_tw hC hY (fun _ _ _ _ _ _ _ _ _ _ _ _ _ _ _ _ hl => by cases hl) _ _ _ _ _ _ _ _ _ _ (fun e1 h1 nx1 hl => ?_) (fun _ _ _ _ hl => by cases hl) (fun _ _ _ hl => by cases hl) hl | (simp only [*]; refine wcode_tw hC hY (fun _ _ _ _ _ _ _ _ _ _ _ _ _ _ _ _ hl => by cases hl) _ _ _ _ _ _ _ _ _ _ (fun e1 h1 nx1 hl => ?_) (fun _ _ _ _ hl => by cases hl) (fun _ _ _ hl => by cases hl) hl) | (simp only [*]; done)
  split at hl
  case h_2 => cases hl
  split at hl
  case h_2 => cases hl
  first | exact wcode_tw hC hY (fun _ _ _ _ _ _ _ _ _ _ _ _ _ _ _ _ hl => by cases hl) _ _ _ _ _ _ _ _ _ _ (wfin_tw hK) (fun i => wfin_tw hK) (wfin_tw hK) hl | (simp only [*]; exact wcode_tw hC hY (fun _ _ _ _ _ _ _ _ _ _ _ _ _ _ _ _ hl => by cases hl) _ _ _ _ _ _ _ _ _ _ (wfin_tw hK) (fun i => wfin_tw hK) (wfin_tw hK) hl) | (simp only [*]; done)
def TwX (c : Cfg) (XB : Nat → Option (List Value → Heap → Nat → KEB → Bool)) : Prop := ∀ f x xb, c.X f = some x → XB f = some xb → ∀ args h nx (K : KEB) (K' : KE), (∀ v h nx, K v h nx = true → K' v h nx) → xb args h nx K = true → x args h nx K'
theorem wbody_tw {c : Cfg} {XB : Nat → Option (List Value → Heap → Nat → KEB → Bool)} (hX : TwX c XB) {n : Nat} (hC : Tw C C') (hY : Tw Y Y') : Tw (wbody c XB n C Y) (vbody c (some n) C' Y') := by
  intro f args h nx K K' hK hl
  unfold wbody at hl; unfold vbody
  split at hl
  · rename_i x hx
    split at hl
    · rename_i xb hxb
      first | exact hX f x xb hx hxb _ _ _ _ _ hK hl | (simp only [hx]; exact hX f x xb hx hxb _ _ _ _ _ hK hl)
    · cases hl
  rename_i hx
  first | skip | (simp only [hx])
  split at hl
  · cases hl
  split at hl
  case h_2 => cases hl
  first | exact wcode_tw hC hY (wrange_tw hC) _ _ _ _ _ _ _ _ _ _ (wend_tw fun v h nx => hK v _ nx) (fun _ _ _ _ hl => by cases hl) (wend_tw fun v h nx => hK v _ nx) hl | (simp only [*]; exact wcode_tw hC hY (wrange_tw hC) _ _ _ _ _ _ _ _ _ _ (wend_tw fun v h nx => hK v _ nx) (fun _ _ _ _ hl => by cases hl) (wend_tw fun v h nx => hK v _ nx) hl)
theorem wcall_tw {c : Cfg} {XB : Nat → Option (List Value → Heap → Nat → KEB → Bool)} (hX : TwX c XB) : ∀ (d : Nat) (b : Bool), Tw (wcall c XB d b) (vcall c d b)
  | 0, _ => fun _ _ _ _ _ _ _ hl => by simp [wcall] at hl
  | d + 1, false => wbody_tw hX (wcall_tw hX d false) (wcall_tw hX d true)
  | d + 1, true => wround_tw (wcall_tw hX d false) (wcall_tw hX d true)
end
end Go.Aw
end

/-
  Contracts: a call reckoned apart, in names of its own, put into a caller's heap. No condition.
-/
set_option linter.unusedSimpArgs false
set_option linter.unusedVariables false
noncomputable section
namespace Go.Aw
open Go.RowKit

def shO (n : Nat) : AObj → AObj
  | .cells wr g sz cs => .cells wr g sz (cs.map (ren1 (fun k => n + k)))
  | o => o
def shH (n : Nat) : Heap → Heap
  | [] => []
  | (k, o) :: r => (n + k, shO n o) :: shH n r
def app : Heap → Heap → Heap
  | [], l => l
  | x :: r, l => x :: app r l

theorem look_app (h l : Heap) (k : Nat) : look (app h l) k = match look h k with | some o => some o | none => look l k := by
  induction h with
  | nil => rfl
  | cons x r ih =>
    obtain ⟨j, o⟩ := x
    simp only [app, look_cons]
    cases Nat.beq j k with
    | true => rfl
    | false => exact ih
theorem look_shH {n : Nat} (h : Heap) {k : Nat} {o : AObj} (hl : look (shH n h) k = some o) : ∃ j o', k = n + j ∧ look h j = some o' ∧ o = shO n o' := by
  induction h with
  | nil => cases hl
  | cons x r ih =>
    obtain ⟨j, q⟩ := x
    simp only [shH, look_cons] at hl
    split at hl
    · rename_i hb
      injection hl with hl
      exact ⟨j, q, (beq_true hb).symm, by rw [look_cons, show Nat.beq j j = true from Nat.beq_refl j], hl.symm⟩
    · rename_i hb
      obtain ⟨j', o', h1, h2, h3⟩ := ih hl
      refine ⟨j', o', h1, ?_, h3⟩
      have : Nat.beq j j' = false := by
        cases hb' : Nat.beq j j' with
        | false => rfl
        | true =>
          have := beq_true hb'
          subst this
          rw [h1, Nat.beq_refl] at hb
          cases hb
      rw [look_cons, this]
      exact h2

def isOwn : AObj → Bool
  | .cells true _ _ _ => true
  | _ => false
def ownH : Heap → Bool
  | [] => true
  | (_, o) :: r => isOwn o && ownH r
theorem ownH_look {h : Heap} (hh : ownH h = true) {k : Nat} {o : AObj} (hl : look h k = some o) : ∃ g sz cs, o = .cells true g sz cs := by
  induction h with
  | nil => cases hl
  | cons x r ih =>
    obtain ⟨j, q⟩ := x
    simp only [ownH, Bool.and_eq_true] at hh
    rw [look_cons] at hl
    split at hl
    · injection hl with hl
      subst hl
      cases q with
      | cells wr g sz cs =>
        cases wr with
        | true => exact ⟨g, sz, cs, rfl⟩
        | false => simp [isOwn] at hh
      | _ => simp [isOwn] at hh
    · exact ih hh.2 hl

def isCells : AObj → Bool
  | .cells _ _ _ _ => true
  | _ => false
def cellsH : Heap → Bool
  | [] => true
  | (_, o) :: r => isCells o && cellsH r
theorem cellsH_look {h : Heap} (hh : cellsH h = true) {k : Nat} {o : AObj} (hl : look h k = some o) : ∃ wr g sz cs, o = .cells wr g sz cs := by
  induction h with
  | nil => cases hl
  | cons x r ih =>
    obtain ⟨j, q⟩ := x
    simp only [cellsH, Bool.and_eq_true] at hh
    rw [look_cons] at hl
    split at hl
    · injection hl with hl
      subst hl
      cases q with
      | cells wr g sz cs => exact ⟨wr, g, sz, cs, rfl⟩
      | _ => simp [isCells] at hh
    · exact ih hh.2 hl
theorem closed_alone (o : AObj) : o.closed.alone = false := by cases o <;> rfl

section
variable {ι : Nat → Loc} {σ : Nat → Nat} {n m : Nat}
theorem scP_into {v : Value} (h : scP (fun k => ι (σ k)) m v) (hs : ∀ k, k < m → σ k < n) : scP ι n (trP (at0 σ) v) := by
  cases v with
  | pointer a => cases a with
    | none => trivial
    | some a => exact ⟨hs _ h.1, h.2⟩
  | slice a l c => cases a with
    | none => trivial
    | some a => exact ⟨hs _ h.1, fun hf => h.2 hf⟩
  | map a => cases a with
    | none => trivial
    | some a => exact ⟨hs _ h.1, h.2⟩
  | agg c => exact h.elim
  | tuple c => exact h.elim
  | _ => trivial
theorem scS_into {v : Value} (h : scS (fun k => ι (σ k)) m v) (hs : ∀ k, k < m → σ k < n) : scS ι n (trS (at0 σ) v) := by
  cases v with
  | func f a c =>
    refine ⟨?_, fun x hx => ?_⟩
    · have h1 := h.1
      cases f with
      | yield l => exact ⟨hs _ h1.1, h1.2⟩
      | _ => trivial
    · simp only [Array.toList_map, List.mem_map] at hx
      obtain ⟨y, hy, rfl⟩ := hx
      exact scP_into (h.2 y hy) hs
  | pointer a => have := scP_into (ι := ι) (σ := σ) (n := n) (m := m) (v := .pointer a); cases a <;> exact this h hs
  | slice a l c => have := scP_into (ι := ι) (σ := σ) (n := n) (m := m) (v := .slice a l c); cases a <;> exact this h hs
  | map a => have := scP_into (ι := ι) (σ := σ) (n := n) (m := m) (v := .map a); cases a <;> exact this h hs
  | agg c => exact h.elim
  | tuple c => exact h.elim
  | _ => trivial
theorem scA_into {v : Value} (h : scA (fun k => ι (σ k)) m v) (hs : ∀ k, k < m → σ k < n) : scA ι n (trA (at0 σ) v) := by
  cases v with
  | agg cs =>
    intro x hx
    simp only [Array.toList_map, List.mem_map] at hx
    obtain ⟨y, hy, rfl⟩ := hx
    exact scS_into (h y hy) hs
  | pointer a => have := scS_into (ι := ι) (σ := σ) (n := n) (m := m) (v := .pointer a); cases a <;> exact this h hs
  | slice a l c => have := scS_into (ι := ι) (σ := σ) (n := n) (m := m) (v := .slice a l c); cases a <;> exact this h hs
  | map a => have := scS_into (ι := ι) (σ := σ) (n := n) (m := m) (v := .map a); cases a <;> exact this h hs
  | func f a c => exact scS_into (ι := ι) (σ := σ) (n := n) (m := m) (v := .func f a c) h hs
  | tuple c => exact h.elim
  | _ => trivial
theorem scT_into {v : Value} (h : scT (fun k => ι (σ k)) m v) (hs : ∀ k, k < m → σ k < n) : scT ι n (ren σ v) := by
  unfold ren
  cases v with
  | tuple cs =>
    intro x hx
    simp only [Array.toList_map, List.mem_map] at hx
    obtain ⟨y, hy, rfl⟩ := hx
    exact scA_into (h y hy) hs
  | pointer a => have := scA_into (ι := ι) (σ := σ) (n := n) (m := m) (v := .pointer a); cases a <;> exact this h hs
  | slice a l c => have := scA_into (ι := ι) (σ := σ) (n := n) (m := m) (v := .slice a l c); cases a <;> exact this h hs
  | map a => have := scA_into (ι := ι) (σ := σ) (n := n) (m := m) (v := .map a); cases a <;> exact this h hs
  | func f a c => exact scA_into (ι := ι) (σ := σ) (n := n) (m := m) (v := .func f a c) h hs
  | agg c => exact scA_into (ι := ι) (σ := σ) (n := n) (m := m) (v := .agg c) h hs
  | _ => trivial

theorem gS_sh {v : Value} (h : gS v = true) : gS (trS (at0 σ) v) = true := by rw [trS_g h]; exact h
end

/-- The outcome of a call reckoned apart, by the caller's names. -/
theorem ret_into {B nx n0 m : Nat} {w w' : World} {ι ι0 : Nat → Loc} {h h1 : Heap} {v1 : Value} {K Q : KE} {u : Value} (H : RelH ι B h nx w)
    (hQ : ∀ v h' nx', Q v h' nx' → ∃ ρ, RenOK 0 ρ [(0, v1)] h1 m [(0, v)] h' nx') (how : cellsH h1 = true) (hal : ownH h1 = true ∨ ∀ k o, look h k = some o → o.alone = false) (hK : K (ren (fun k => nx + k) v1) (app h (shH nx h1)) (nx + m))
    (hr : Ret w.heap.size w ι0 n0 Q (.returned u) w') : Ret B w ι nx K (.returned u) w' := by
  obtain ⟨v, h', nx', ι', q1, q2, q3, q4, q5, q6, q7⟩ := hr
  obtain ⟨ρ, r⟩ := hQ v h' nx' q1
  have hv : v = ren ρ v1 ∧ nmT m v1 := by
    obtain ⟨e1, e2⟩ := r.env 0 v1 rfl
    injection e1 with e1
    exact ⟨e1, e2⟩
  obtain ⟨rfl, hnm⟩ := hv
  obtain ⟨ιN, hloc, hold⟩ : ∃ ιN : Nat → Loc, (∀ j, ιN (nx + j) = ι' (ρ j)) ∧ ∀ k, k < nx → ιN k = ι k :=
    ⟨fun k => if k < nx then ι k else ι' (ρ (k - nx)), fun j => by
      have : ¬ (nx + j < nx) := by omega
      simp only [if_neg this, Nat.add_sub_cancel_left], fun k hk => if_pos hk⟩
  have hι : (fun k => ιN (nx + k)) = fun k => ι' (ρ k) := funext hloc
  have hsm : scT (fun k => ι' (ρ k)) m v1 := scT_ren q2 hnm
  have R1 := r.relH q3
  have H' : RelH ι B h nx w' := H.ext q4
  have hscn : scT ιN (nx + m) (ren (fun k => nx + k) v1) := by
    refine scT_into (m := m) ?_ (fun k hk => by omega)
    rw [hι]; exact hsm
  have hcase : ∀ k o, look (app h (shH nx h1)) k = some o → (look h k = some o ∧ k < nx) ∨ (∃ j wr g sz cs, k = nx + j ∧ look h1 j = some (.cells wr g sz cs) ∧ o = .cells wr g sz (cs.map (ren1 (fun k => nx + k)))) := by
    intro k o hk
    rw [look_app] at hk
    split at hk
    · rename_i o' ho
      injection hk with hk
      subst hk
      exact .inl ⟨ho, H.low k _ ho⟩
    · obtain ⟨j, o', e1, e2, e3⟩ := look_shH h1 hk
      obtain ⟨wr, g, sz, cs, rfl⟩ := cellsH_look how e2
      exact .inr ⟨j, wr, g, sz, cs, e1, e2, e3⟩
  refine ⟨ren (fun k => nx + k) v1, _, _, ιN, hK, hscn, ⟨?_, ?_, ?_, H'.size, ?_⟩, q4.mono H.size, hold, by omega, ?_⟩
  · intro k o hk
    rcases hcase k o hk with ⟨h2, h3⟩ | ⟨j, wr, g, sz, cs, rfl, h2, rfl⟩
    · rw [hold k h3]
      exact (H'.obj k o h2).names (H'.sc k o h2) hold
    · rw [hloc]
      have ho := R1.obj j _ h2
      have hsc := R1.sc j _ h2
      cases hl : ι' (ρ j) with
      | nil p =>
        rw [hl] at ho
        have hcz : cs = [] ∧ (sz = 0 ∨ wr = true → p.isSome = true) := by cases wr <;> exact ho
        obtain ⟨hc0, hz⟩ := hcz
        subst hc0
        cases wr <;> exact ⟨rfl, hz⟩
      | lay b off e =>
        rw [hl] at ho
        have hcell : ∀ {Φ : Nat → Value → Prop}, (∀ (i : Nat) y, cs[i]? = some y → Φ i (trS (fun k => ι' (ρ k)) y)) → ∀ (i : Nat) v, (cs.map (ren1 (fun k => nx + k)))[i]? = some v → Φ i (trS ιN v) := by
          intro Φ hΦ i v hv
          rw [List.getElem?_map] at hv
          cases hy : cs[i]? with
          | none => rw [hy] at hv; cases hv
          | some y =>
            rw [hy] at hv
            injection hv with hv
            subst hv
            have hsy := hsc y (List.mem_of_getElem? hy)
            have hin : scS ιN (nx + m) (trS (at0 (fun k => nx + k)) y) := by
              refine scS_into (m := m) ?_ (fun k hk => by omega)
              rw [hι]; exact hsy
            have := hΦ i y hy
            rw [← hι, ← trS_ren hin] at this
            exact this
        have hgg : ∀ {b : Bool}, (b = true → allG cs = true) → b = true → allG (cs.map (ren1 (fun k => nx + k))) = true := fun h hg => allG_of fun v hv => by
          obtain ⟨y, hy, rfl⟩ := List.mem_map.1 hv
          exact gS_sh (allG_mem (h hg) hy)
        cases wr with
        | true =>
          obtain ⟨a1, a2, arr, t, a3, a4, a5⟩ := ho
          exact ⟨Nat.le_trans H.size a1, hgg a2, arr, t, a3, by simpa using a4, hcell (Φ := fun i v => arr[off + i]? = some v) a5⟩
        | false =>
          obtain ⟨a1, a2, a5⟩ := ho
          exact ⟨a1, hgg a2, hcell (Φ := fun i v => w'.cell? ⟨b, off + i, none⟩ = some v) a5⟩
  · intro k k' o o' hk hk' hne ha b hb
    rcases hcase k o hk with ⟨h2, h3⟩ | ⟨j, wr, g, sz, cs, rfl, h2, rfl⟩
    · rw [hold k h3] at hb
      rcases hcase k' o' hk' with ⟨h4, h5⟩ | ⟨j', wr', g', sz', cs', rfl, h4, rfl⟩
      · rw [hold k' h5]
        exact H'.sep k k' o o' h2 h4 hne ha b hb
      · rw [hloc]
        intro hb'
        have hlt := (H.obj k o h2).lt hb
        rcases hal with how2 | hal
        · obtain ⟨g2, sz2, cs2, e2⟩ := ownH_look how2 h4
          have ho := R1.obj j' _ h4
          cases hl : ι' (ρ j') with
          | nil p => rw [hl] at hb'; cases hb'
          | lay b2 off e =>
            rw [hl] at hb'
            rw [hl, e2] at ho
            have : b2 = b := by simpa [Loc.blk] using hb'
            have := ho.1
            omega
        · rw [hal k o h2] at ha
          cases ha
    · rw [hloc] at hb
      rcases hcase k' o' hk' with ⟨h4, h5⟩ | ⟨j', wr', g', sz', cs', rfl, h4, rfl⟩
      · rw [hold k' h5]
        intro hb'
        have hlt := (H.obj k' o' h4).lt hb'
        have ho := R1.obj j _ h2
        cases hl : ι' (ρ j) with
        | nil p => rw [hl] at hb; cases hb
        | lay b2 off e =>
          rw [hl] at ho hb
          have : b2 = b := by simpa [Loc.blk] using hb
          have hwr : wr = true := ha
          subst hwr
          have := ho.1
          omega
      · rw [hloc]
        exact R1.sep j j' _ _ h2 h4 (fun e => hne (by rw [e])) ha b hb
  · intro k o hk
    rcases hcase k o hk with ⟨h2, h3⟩ | ⟨j, wr, g, sz, cs, rfl, h2, rfl⟩
    · omega
    · have := R1.low j _ h2
      omega
  · intro k o hk
    rcases hcase k o hk with ⟨h2, h3⟩ | ⟨j, wr, g, sz, cs, rfl, h2, rfl⟩
    · exact (H'.sc k o h2).mono (by omega) hold
    · intro v hv
      obtain ⟨y, hy, rfl⟩ := List.mem_map.1 hv
      refine scS_into (m := m) ?_ (fun k hk => by omega)
      rw [hι]
      exact R1.sc j _ h2 y hy
  · rw [q7, tr_ren q2, tr_ren hscn, hι]

/-- How a caller's arguments lie in a heap of the call's own, read only. -/
def In (args0 : List Value) (h0 : Heap) (n0 : Nat) (args : List Value) (h : Heap) (nx : Nat) : Prop :=
  ∀ ι B w, RelH ι B h nx w → (∀ v ∈ args, scT ι nx v) → ∃ ι0, args.map (tr ι) = args0.map (tr ι0) ∧ (∀ v ∈ args0, scT ι0 n0 v) ∧ RelH ι0 w.heap.size h0 n0 w

/-- A contract: from what is given to what is yielded, in names of the call's own. -/
abbrev Sp := List Value → Heap → Nat → Value → Heap → Nat → Prop
/-- A caller's heap past a call: read only, if what the call yields may lie anywhere. -/
def past (h1 h : Heap) : Heap := match ownH h1 with | true => h | false => shutH h
def xOf (S : Sp) : List Value → Heap → Nat → KE → Prop := fun args h nx K =>
  ∃ args0 h0 n0 v1 h1 m, S args0 h0 n0 v1 h1 m ∧ In args0 h0 n0 args h nx ∧ K (ren (fun k => nx + k) v1) (app (past h1 h) (shH nx h1)) (nx + m)
/-- The outcome, up to names. -/
def Outc (v1 : Value) (h1 : Heap) (m : Nat) : KE := fun v h' nx' => ∃ ρ, RenOK 0 ρ [(0, v1)] h1 m [(0, v)] h' nx'

theorem xOf_ok {P : Program} {C : VC} {f : Nat} {S : Sp} (hC : CallsOK P C) (hS : ∀ args0 h0 n0 v1 h1 m, S args0 h0 n0 v1 h1 m → cellsH h1 = true ∧ ∃ Q : KE, C f args0 h0 n0 Q ∧ ∀ v h nx, Q v h nx → Outc v1 h1 m v h nx) : XOK P f (xOf S) := by
  refine ⟨fun args h nx K hx ι B w H hs => ?_, fun args h nx K hx => ?_⟩
  · obtain ⟨args0, h0, n0, v1, h1, m, s1, s2, s3⟩ := hx
    obtain ⟨how, Q, hc, hq⟩ := hS _ _ _ _ _ _ s1
    obtain ⟨ι0, e1, e2, e3⟩ := s2 ι B w H hs
    obtain ⟨c1, c2⟩ := hC f args0 h0 n0 _ hc ι0 w.heap.size w e3 e2
    refine ⟨c1, ?_⟩
    rw [e1]
    refine CallsIn.mono c2 fun e w' hr => ?_
    cases e with
    | returned u =>
      unfold past at s3
      cases ho : ownH h1 with
      | true => rw [ho] at s3; exact ret_into H (fun v h' nx' q => hq v h' nx' q) how (.inl ho) s3 hr
      | false =>
        rw [ho] at s3
        refine ret_into (H.shut.down H.size) (fun v h' nx' q => hq v h' nx' q) how (.inr fun k o hk => ?_) s3 hr
        rw [look_shutH] at hk
        cases hq : look h k with
        | none => rw [hq] at hk; cases hk
        | some q =>
          rw [hq] at hk
          injection hk with hk
          subst hk
          exact closed_alone q
    | _ => exact hr.elim
  · obtain ⟨args0, h0, n0, v1, h1, m, s1, s2, s3⟩ := hx
    exact ⟨_, _, _, s3, fun K' hk => ⟨args0, h0, n0, v1, h1, m, s1, s2, hk⟩⟩

theorem noLook {α : Type} {k : Nat} {o : α} {p : Prop} (h : look [] k = some o) : p := by cases h

/-- Values without addresses. -/
theorem Outc_g {v : Value} (hv : gT v = true) {h' : Heap} {nx' : Nat} : Outc v [] 0 v h' nx' :=
  ⟨id, ⟨fun t u hu => by
    rw [look_cons] at hu
    split at hu
    · rename_i hb
      injection hu with hu
      subst hu
      exact ⟨by rw [look_cons, hb]; show some v = some (ren id v); rw [ren, tr_g hv], scT_g hv⟩
    · exact noLook hu, fun k o hk => noLook hk, fun k k' o o' hk => noLook hk, fun k hk => rfl, Nat.le_refl _⟩⟩
theorem ren_g {σ : Nat → Nat} {v : Value} (hv : gT v = true) : ren σ v = v := tr_g hv

/-- Arguments without addresses. -/
theorem In_g {args : List Value} (hg : ∀ v ∈ args, gT v = true) {h : Heap} {nx : Nat} : In args [] 0 args h nx := by
  intro ι B w H hs
  refine ⟨ι, rfl, fun v hv => scT_g (hg v hv), ⟨fun k o hk => noLook hk, fun k k' o o' hk => noLook hk, fun k o hk => noLook hk, Nat.le_refl _, fun k o hk => noLook hk⟩⟩
end Go.Aw
end

/-
  Closed calls, reckoned one by one, as contracts. No condition.
-/
set_option linter.unusedSimpArgs false
set_option linter.unusedVariables false
noncomputable section
namespace Go.Aw
open Go.RowKit

/-! ### equality of values, in truth values -/
def sameI : Int → Int → Bool
  | .ofNat a, .ofNat b => Nat.beq a b
  | .negSucc a, .negSucc b => Nat.beq a b
  | _, _ => false
theorem sameI_eq {a b : Int} (h : sameI a b = true) : a = b := by
  cases a <;> cases b <;> simp only [sameI] at h <;> first | cases h; done | rw [beq_true h]
def sameB : Bool → Bool → Bool
  | true, true => true
  | false, false => true
  | _, _ => false
theorem sameB_eq {a b : Bool} (h : sameB a b = true) : a = b := by cases a <;> cases b <;> first | rfl | cases h
def sameS : Value → Value → Bool
  | .bool a, .bool b => sameB a b
  | .int k a, .int j b => kEq k j && sameI a b
  | .slice none n c, .slice none n' c' => Nat.beq n n' && Nat.beq c c'
  | .slice (some ⟨a, o, none⟩) n c, .slice (some ⟨a', o', none⟩) n' c' => Nat.beq a a' && Nat.beq o o' && Nat.beq n n' && Nat.beq c c'
  | _, _ => false
theorem sameS_eq {v u : Value} (h : sameS v u = true) : v = u := by
  unfold sameS at h
  split at h
  · rw [sameB_eq h]
  · simp only [Bool.and_eq_true] at h
    rw [kEq_true h.1, sameI_eq h.2]
  · simp only [Bool.and_eq_true] at h
    rw [beq_true h.1, beq_true h.2]
  · simp only [Bool.and_eq_true] at h
    obtain ⟨⟨⟨h1, h2⟩, h3⟩, h4⟩ := h
    rw [beq_true h1, beq_true h2, beq_true h3, beq_true h4]
  · cases h
def sameL : List Value → List Value → Bool
  | [], [] => true
  | a :: r, b :: s => sameS a b && sameL r s
  | _, _ => false
theorem sameL_eq : ∀ {l m : List Value}, sameL l m = true → l = m
  | [], [], _ => rfl
  | [], _ :: _, h => by cases h
  | _ :: _, [], h => by cases h
  | a :: r, b :: s, h => by
    simp only [sameL, Bool.and_eq_true] at h
    rw [sameS_eq h.1, sameL_eq h.2]
def sameA : Value → Value → Bool
  | .agg a, .agg b => sameL a.toList b.toList
  | a, b => sameS a b
theorem sameA_eq {v u : Value} (h : sameA v u = true) : v = u := by
  unfold sameA at h
  split at h
  · rw [show _ = _ from Array.ext' (sameL_eq h)]
  · exact sameS_eq h
def sameAL : List Value → List Value → Bool
  | [], [] => true
  | a :: r, b :: s => sameA a b && sameAL r s
  | _, _ => false
theorem sameAL_eq : ∀ {l m : List Value}, sameAL l m = true → l = m
  | [], [], _ => rfl
  | [], _ :: _, h => by cases h
  | _ :: _, [], h => by cases h
  | a :: r, b :: s, h => by
    simp only [sameAL, Bool.and_eq_true] at h
    rw [sameA_eq h.1, sameAL_eq h.2]
def sameT : Value → Value → Bool
  | .tuple a, .tuple b => sameAL a.toList b.toList
  | a, b => sameA a b
theorem sameT_eq {v u : Value} (h : sameT v u = true) : v = u := by
  unfold sameT at h
  split at h
  · rw [show _ = _ from Array.ext' (sameAL_eq h)]
  · exact sameA_eq h

/-! ### names below a number -/
def nmSB (n : Nat) : Value → Bool
  | .slice (some a) _ _ => Nat.blt a.block n
  | v => gS v
theorem nmSB_ok {n : Nat} {v : Value} (h : nmSB n v = true) : nmS n v := by
  unfold nmSB at h
  split at h
  · exact ⟨Nat.le_of_ble_eq_true h, fun e => by cases e⟩
  · exact scS_g h
def nmLB (n : Nat) : List Value → Bool
  | [] => true
  | v :: r => nmSB n v && nmLB n r
theorem nmLB_ok {n : Nat} : ∀ {l : List Value}, nmLB n l = true → ∀ v ∈ l, nmS n v
  | [], _, v, hv => by cases hv
  | x :: r, h, v, hv => by
    simp only [nmLB, Bool.and_eq_true] at h
    cases hv with
    | head => exact nmSB_ok h.1
    | tail _ hm => exact nmLB_ok h.2 v hm
def nmAB (n : Nat) : Value → Bool
  | .agg c => nmLB n c.toList
  | v => nmSB n v
theorem nmAB_ok {n : Nat} {v : Value} (h : nmAB n v = true) : scA (at0 id) n v := by
  unfold nmAB at h
  split at h
  · exact fun x hx => nmLB_ok h x hx
  · exact scA_of_S (nmSB_ok h)
def nmALB (n : Nat) : List Value → Bool
  | [] => true
  | v :: r => nmAB n v && nmALB n r
theorem nmALB_ok {n : Nat} : ∀ {l : List Value}, nmALB n l = true → ∀ v ∈ l, scA (at0 id) n v
  | [], _, v, hv => by cases hv
  | x :: r, h, v, hv => by
    simp only [nmALB, Bool.and_eq_true] at h
    cases hv with
    | head => exact nmAB_ok h.1
    | tail _ hm => exact nmALB_ok h.2 v hm
def nmTB (n : Nat) : Value → Bool
  | .tuple c => nmALB n c.toList
  | v => nmAB n v
theorem nmTB_ok {n : Nat} {v : Value} (h : nmTB n v = true) : nmT n v := by
  unfold nmTB at h
  split at h
  · exact fun x hx => nmALB_ok h x hx
  · exact scT_of_A (nmAB_ok h)

/-! ### closed calls -/
/-- A closed call: its function, its slice (length, cells, cells an element), its other arguments; what it yields, and the renaming. -/
structure Clo where
  f : Nat
  sl : Option (Nat × Nat × List Value)
  rest : List Value
  v1 : Value
  h1 : Heap
  m : Nat
  ρ : List (Nat × Nat)

def Clo.args (E : Clo) : List Value := match E.sl with | some (n, _, _) => .slice (some ⟨0, 0, none⟩) n n :: E.rest | none => E.rest
def Clo.h0 (E : Clo) : Heap := match E.sl with | some (_, sz, cs) => [(0, .cells false true sz cs)] | none => []
def Clo.n0 (E : Clo) : Nat := match E.sl with | some _ => 1 | none => 0
def nm (ρ : List (Nat × Nat)) (k : Nat) : Nat := match look ρ k with | some j => j | none => k
def injB (ρ : List (Nat × Nat)) : List (Nat × AObj) → List Nat → Bool
  | [], _ => true
  | (k, _) :: r, seen => !(memB (nm ρ k) seen) && injB ρ r (nm ρ k :: seen)
def objB (ρ : List (Nat × Nat)) (m : Nat) (h' : Heap) : Heap → Bool
  | [] => true
  | (k, .cells wr g sz cs) :: r => Nat.blt k m && nmLB m cs && (match look h' (nm ρ k) with
    | some (.cells wr' g' sz' cs') => sameB wr wr' && sameB g g' && Nat.beq sz sz' && sameL cs' (cs.map (ren1 (nm ρ)))
    | _ => false) && objB ρ m h' r
  | _ => false
def outB (E : Clo) : KEB := fun v h' _ => sameT v (ren (nm E.ρ) E.v1) && nmTB E.m E.v1 && objB E.ρ E.m h' E.h1

theorem objB_ok {ρ : List (Nat × Nat)} {m : Nat} {h' : Heap} : ∀ {h1 : Heap}, objB ρ m h' h1 = true → (cellsH h1 = true ∧ ∀ k o, look h1 k = some o → k < m ∧ ∃ o', look h' (nm ρ k) = some o' ∧ ObjRen (nm ρ) m o o')
  | [], _ => ⟨rfl, fun k o hk => noLook hk⟩
  | (k, .cells wr g sz cs) :: r, h => by
    simp only [objB, Bool.and_eq_true] at h
    obtain ⟨⟨⟨h1, h2⟩, h3⟩, h4⟩ := h
    obtain ⟨i1, i2⟩ := objB_ok h4
    refine ⟨by simp only [cellsH, isCells, i1, Bool.and_self], fun j o hj => ?_⟩
    rw [look_cons] at hj
    split at hj
    · rename_i hb
      have := beq_true hb
      subst this
      injection hj with hj
      subst hj
      refine ⟨Nat.le_of_ble_eq_true h1, ?_⟩
      split at h3
      case h_2 => cases h3
      rename_i wr' g' sz' cs' hl
      simp only [Bool.and_eq_true] at h3
      obtain ⟨⟨⟨a0, a1⟩, a2⟩, a3⟩ := h3
      exact ⟨_, hl, sameB_eq a0, sameB_eq a1, beq_true a2, sameL_eq a3, nmLB_ok h2⟩
    · exact i2 j o hj
  | (k, .map es) :: r, h => by cases h
  | (k, .loop l) :: r, h => by cases h
  | (k, .deferred) :: r, h => by cases h
  | (k, .zero) :: r, h => by cases h

theorem outB_ok {E : Clo} {v : Value} {h' : Heap} {nx' : Nat} (hinj : ∀ k k' o o', look E.h1 k = some o → look E.h1 k' = some o' → nm E.ρ k = nm E.ρ k' → k = k') (h : outB E v h' nx' = true) : cellsH E.h1 = true ∧ Outc E.v1 E.h1 E.m v h' nx' := by
  simp only [outB, Bool.and_eq_true] at h
  obtain ⟨⟨h1, h2⟩, h3⟩ := h
  obtain ⟨h4, h5⟩ := objB_ok h3
  refine ⟨h4, nm E.ρ, ⟨fun t u hu => ?_, h5, hinj, fun k hk => absurd hk (Nat.not_lt_zero k), Nat.zero_le _⟩⟩
  rw [look_cons] at hu
  split at hu
  · rename_i hb
    injection hu with hu
    subst hu
    exact ⟨by rw [look_cons, hb, sameT_eq h1], nmTB_ok h2⟩
  · exact noLook hu

/-- Injectivity, by a test. -/
def injL (ρ : List (Nat × Nat)) (h1 : Heap) : Bool := h1.all fun p => h1.all fun q => !(Nat.beq (nm ρ p.1) (nm ρ q.1)) || Nat.beq p.1 q.1
theorem look_mem {α : Type} {l : List (Nat × α)} {k : Nat} {o : α} (h : look l k = some o) : (k, o) ∈ l := by
  induction l with
  | nil => exact noLook h
  | cons x r ih =>
    obtain ⟨j, q⟩ := x
    rw [look_cons] at h
    split at h
    · rename_i hb
      have := beq_true hb
      subst this
      injection h with h
      subst h
      exact .head _
    · exact .tail _ (ih h)
theorem injL_ok {ρ : List (Nat × Nat)} {h1 : Heap} (h : injL ρ h1 = true) : ∀ k k' o o', look h1 k = some o → look h1 k' = some o' → nm ρ k = nm ρ k' → k = k' := by
  intro k k' o o' a b e
  have h2 := List.all_eq_true.1 (List.all_eq_true.1 h _ (look_mem a)) _ (look_mem b)
  simp only [Bool.or_eq_true, Bool.not_eq_true'] at h2
  rcases h2 with h2 | h2
  · exact absurd e (beq_false h2)
  · exact beq_true h2

/-! ### as contracts -/
def cloS (L : List Clo) (f : Nat) : Sp := fun args0 h0 n0 v1 h1 m => ∃ E ∈ L, E.f = f ∧ args0 = E.args ∧ h0 = E.h0 ∧ n0 = E.n0 ∧ v1 = E.v1 ∧ h1 = E.h1 ∧ m = E.m
def hasF (f : Nat) : List Clo → Bool
  | [] => false
  | E :: r => match Nat.beq E.f f with | true => true | false => hasF f r
def cloX (L : List Clo) (f : Nat) : Option (List Value → Heap → Nat → KE → Prop) := match hasF f L with | true => some (xOf (cloS L f)) | false => none

/-- Does the call at hand fit? -/
def fitB (E : Clo) (args : List Value) (h : Heap) : Bool := match E.sl with
  | none => sameAL args E.rest && allGA E.rest
  | some (n, sz, cs0) => (match args with
    | .slice (some ⟨k, o, none⟩) n' c' :: r => Nat.beq n n' && Nat.beq n c' && sameAL r E.rest && allGA E.rest && allG cs0 && (match look h k with
      | some (.cells _ _ _ cs) => Nat.ble 1 sz && sameL ((cs.drop o).take cs0.length) cs0
      | _ => false)
    | _ => false)
def cloB (f : Nat) : List Clo → List Value → Heap → Nat → KEB → Bool
  | [], _, _, _, _ => false
  | E :: r, args, h, nx, K => match Nat.beq E.f f && fitB E args h with
    | true => K (ren (fun k => nx + k) E.v1) (app (past E.h1 h) (shH nx E.h1)) (nx + E.m)
    | false => cloB f r args h nx K
def cloXB (L : List Clo) (f : Nat) : Option (List Value → Heap → Nat → KEB → Bool) := match hasF f L with | true => some (cloB f L) | false => none

theorem allGA_mem {l : List Value} (h : allGA l = true) {v : Value} (hv : v ∈ l) : gT v = true := by
  induction l with
  | nil => cases hv
  | cons x r ih =>
    simp only [allGA, Bool.and_eq_true] at h
    cases hv with
    | head =>
      have := h.1
      cases v <;> first | exact this | (simp [gA, gS] at this)
    | tail _ hm => exact ih h.2 hm

/-- A slice and values without addresses, as a call's own. -/
theorem In_sl {k o n c : Nat} {r : List Value} (hr : allGA r = true) {h : Heap} {nx : Nat} {wr g : Bool} {sz0 : Nat} {cs : List Value} (hk : look h k = some (.cells wr g sz0 cs)) {cs0 : List Value} (hcs : (cs.drop o).take cs0.length = cs0) (hg : allG cs0 = true) (g0 : Bool) (sz : Nat) (hz : sz ≠ 0) :
    In (.slice (some ⟨0, 0, none⟩) n c :: r) [(0, .cells false g0 sz cs0)] 1 (.slice (some ⟨k, o, none⟩) n c :: r) h nx := by
  intro ι B w H hs
  have hx : k < nx ∧ ((ι k).isAt = false → n = 0 ∧ c = 0) := hs _ (.head _)
  have hmap : ∀ ι1 ι2 : Nat → Loc, r.map (tr ι1) = r.map (tr ι2) := fun ι1 ι2 => List.map_congr_left fun v hv => by rw [tr_g (allGA_mem hr hv), tr_g (allGA_mem hr hv)]
  have hsc : ∀ ι0 : Nat → Loc, ∀ v ∈ r, scT ι0 1 v := fun ι0 v hv => scT_g (allGA_mem hr hv)
  have ho := H.obj k _ hk
  cases hι : ι k with
  | nil p =>
    rw [hι] at ho
    have hnil : cs = [] := by cases wr <;> exact ho.1
    subst hnil
    have h0 : cs0 = [] := by rw [← hcs]; simp
    subst h0
    refine ⟨fun _ => .nil p, ?_, ?_, ⟨?_, ?_, ?_, Nat.le_refl _, ?_⟩⟩
    · rw [List.map_cons, List.map_cons, hmap ι]
      congr 1
      simp [tr, trA, trS, trP, hι]
    · intro v hv
      cases hv with
      | head => exact ⟨Nat.one_pos, fun _ => hx.2 (by rw [hι]; rfl)⟩
      | tail _ hm => exact hsc _ v hm
    · intro j q hq
      rw [look_cons] at hq
      split at hq
      · injection hq with hq; subst hq; exact ⟨rfl, fun h => h.elim (fun h => absurd h hz) (fun h => by cases h)⟩
      · exact noLook hq
    · intro j j' q q' hq hq' hne ha b hb
      cases hb
    · intro j q hq
      rw [look_cons] at hq
      split at hq
      · rename_i hb; rw [← beq_true hb]; exact Nat.one_pos
      · exact noLook hq
    · intro j q hq
      rw [look_cons] at hq
      split at hq
      · injection hq with hq; subst hq; intro v hv; cases hv
      · exact noLook hq
  | lay b off e =>
    have hlt : b < w.heap.size := ho.lt (by rw [hι]; rfl)
    refine ⟨fun _ => .lay b (off + o) e, ?_, ?_, ⟨?_, ?_, ?_, Nat.le_refl _, ?_⟩⟩
    · rw [List.map_cons, List.map_cons, hmap ι]
      congr 1
      simp [tr, trA, trS, trP, hι]
    · intro v hv
      cases hv with
      | head => exact ⟨Nat.one_pos, fun h => by cases h⟩
      | tail _ hm => exact hsc _ v hm
    · intro j q hq
      rw [look_cons] at hq
      split at hq
      · injection hq with hq
        subst hq
        refine ⟨hlt, fun _ => hg, fun i v hv => ?_⟩
        have hv2 : cs[o + i]? = some v := by
          rw [← hcs] at hv
          rw [List.getElem?_take] at hv
          split at hv
          · rw [List.getElem?_drop] at hv; exact hv
          · cases hv
        obtain ⟨b', off', e', hι', hc⟩ := H.cell hk hv2
        rw [hι] at hι'
        injection hι' with e1 e2 e3
        subst e1; subst e2
        have hgv := allG_mem hg (List.mem_of_getElem? hv)
        rw [Nat.add_assoc, hc, trS_g hgv, trS_g hgv]
      · exact noLook hq
    · intro j j' q q' hq hq' hne ha b hb
      rw [look_cons] at hq hq'
      split at hq
      · rename_i hb1
        split at hq'
        · rename_i hb2; exact absurd ((beq_true hb1).symm.trans (beq_true hb2)) hne
        · exact noLook hq'
      · exact noLook hq
    · intro j q hq
      rw [look_cons] at hq
      split at hq
      · rename_i hb; rw [← beq_true hb]; exact Nat.one_pos
      · exact noLook hq
    · intro j q hq
      rw [look_cons] at hq
      split at hq
      · injection hq with hq; subst hq; exact fun v hv => scS_g (allG_mem hg hv)
      · exact noLook hq

theorem fitB_ok {E : Clo} {args : List Value} {h : Heap} {nx : Nat} (hf : fitB E args h = true) : In E.args E.h0 E.n0 args h nx := by
  unfold fitB at hf
  unfold Clo.args Clo.h0 Clo.n0
  split at hf
  · rename_i hs
    simp only [Bool.and_eq_true] at hf
    rw [hs]
    rw [sameAL_eq hf.1]
    exact In_g fun v hv => allGA_mem hf.2 hv
  · rename_i n sz cs0 hs
    rw [hs]
    split at hf
    case h_2 => cases hf
    rename_i k o n' c' r
    simp only [Bool.and_eq_true] at hf
    obtain ⟨⟨⟨⟨⟨h1, h2⟩, h3⟩, h4⟩, h5⟩, h6⟩ := hf
    have := beq_true h1
    subst this
    have := beq_true h2
    subst this
    have := sameAL_eq h3
    subst this
    split at h6
    case h_2 => cases h6
    rename_i wr g sz0 cs hk
    simp only [Bool.and_eq_true] at h6
    have h7 := Nat.le_of_ble_eq_true h6.1
    exact In_sl h4 hk (sameL_eq h6.2) h5 true sz (by omega)

theorem cloB_ok {f : Nat} (L0 : List Clo) {args : List Value} {h : Heap} {nx : Nat} {K : KEB} {K' : KE} (hK : ∀ v h nx, K v h nx = true → K' v h nx) : ∀ (L : List Clo), (∀ E ∈ L, E ∈ L0) → cloB f L args h nx K = true → xOf (cloS L0 f) args h nx K'
  | [], _, hl => by cases hl
  | E :: r, hsub, hl => by
    simp only [cloB] at hl
    split at hl
    · rename_i hb
      simp only [Bool.and_eq_true] at hb
      exact ⟨E.args, E.h0, E.n0, E.v1, E.h1, E.m, ⟨E, hsub E (.head _), beq_true hb.1, rfl, rfl, rfl, rfl, rfl, rfl⟩, fitB_ok hb.2, hK _ _ _ hl⟩
    · exact cloB_ok L0 hK r (fun E hE => hsub E (.tail _ hE)) hl
theorem cloTwX {c : Cfg} {L : List Clo} (hc : c.X = cloX L) : TwX c (cloXB L) := by
  intro f x xb hx hxb args h nx K K' hK hl
  rw [hc] at hx
  unfold cloX at hx
  unfold cloXB at hxb
  split at hx
  · rename_i hh
    rw [hh] at hxb
    injection hx with hx
    injection hxb with hxb
    subst hx; subst hxb
    exact cloB_ok L hK L (fun _ h => h) hl
  · cases hx

/-- What each closed call must show. -/
def CloOK (c : Cfg) (d : Nat) (E : Clo) : Prop := wcall c (fun _ => none) d false E.f E.args E.h0 E.n0 (outB E) = true ∧ injL E.ρ E.h1 = true
theorem cloXOK {P : Program} {c : Cfg} (hc : CfgOK P c) (hx : c.X = fun _ => none) {d : Nat} {L : List Clo} (hL : ∀ E ∈ L, CloOK c d E) : ∀ f x, cloX L f = some x → XOK P f x := by
  intro f x hfx
  unfold cloX at hfx
  split at hfx
  case h_2 => cases hfx
  injection hfx with hfx
  subst hfx
  refine xOf_ok (vcall_ok hc d).1 fun args0 h0 n0 v1 h1 m hs => ?_
  obtain ⟨E, hE, rfl, rfl, rfl, rfl, rfl, rfl, rfl⟩ := hs
  obtain ⟨t1, t2⟩ := hL E hE
  have hX : TwX c (fun _ => none) := fun f x xb hx2 => by rw [hx] at hx2; cases hx2
  have hv := wcall_tw hX d false E.f E.args E.h0 E.n0 (outB E) (fun v h nx => cellsH E.h1 = true ∧ Outc E.v1 E.h1 E.m v h nx) (fun v h nx ho => outB_ok (injL_ok t2) ho) t1
  obtain ⟨v, h', nx', k1, k2⟩ := (vcall_ok hc d).2.2.1 _ _ _ _ _ hv
  exact ⟨k1.1, _, k2 _ k1.2, fun _ _ _ q => q⟩
end Go.Aw
end

/-
  Quicker arithmetic for the kernel. No condition.
-/
set_option linter.unusedSimpArgs false
set_option linter.unusedVariables false
noncomputable section
namespace Go.Aw
def ltF : Int → Int → Bool
  | .ofNat m, .ofNat n => Nat.blt m n
  | .ofNat _, .negSucc _ => false
  | .negSucc _, .ofNat _ => true
  | .negSucc m, .negSucc n => Nat.blt n m
def leF : Int → Int → Bool
  | .ofNat m, .ofNat n => Nat.ble m n
  | .ofNat _, .negSucc _ => false
  | .negSucc _, .ofNat _ => true
  | .negSucc m, .negSucc n => Nat.ble n m
def eqF : Int → Int → Bool
  | .ofNat m, .ofNat n => Nat.beq m n
  | .ofNat _, .negSucc _ => false
  | .negSucc _, .ofNat _ => false
  | .negSucc m, .negSucc n => Nat.beq m n
def fitsF : IntKind → Int → Bool
  | .i64, .ofNat m => Nat.ble m 9223372036854775807
  | .i64, .negSucc m => Nat.ble m 9223372036854775807
  | k, n => fitsK k n
theorem blt_dec (m n : Nat) : Nat.blt m n = decide (m < n) := by
  cases h : Nat.blt m n with
  | true => exact (decide_eq_true (blt_true h)).symm
  | false =>
    refine (decide_eq_false fun hl => ?_).symm
    have : Nat.blt m n = true := Nat.ble_eq_true_of_le hl
    rw [h] at this; cases this
theorem ble_dec (m n : Nat) : Nat.ble m n = decide (m ≤ n) := by
  cases h : Nat.ble m n with
  | true => exact (decide_eq_true (Nat.le_of_ble_eq_true h)).symm
  | false =>
    refine (decide_eq_false fun hl => ?_).symm
    have : Nat.ble m n = true := Nat.ble_eq_true_of_le hl
    rw [h] at this; cases this
theorem beq_dec (m n : Nat) : Nat.beq m n = decide (m = n) := by
  cases h : Nat.beq m n with
  | true => exact (decide_eq_true (beq_true h)).symm
  | false => exact (decide_eq_false (beq_false h)).symm
theorem ltF_eq (a b : Int) : ltF a b = decide (a < b) := by
  rw [Bool.eq_iff_iff]
  cases a <;> cases b <;> simp only [ltF, blt_dec, decide_eq_true_eq, Int.ofNat_eq_natCast, Int.negSucc_eq, Bool.false_eq_true, false_iff, true_iff] <;> omega
theorem leF_eq (a b : Int) : leF a b = decide (a ≤ b) := by
  rw [Bool.eq_iff_iff]
  cases a <;> cases b <;> simp only [leF, ble_dec, decide_eq_true_eq, Int.ofNat_eq_natCast, Int.negSucc_eq, Bool.false_eq_true, false_iff, true_iff] <;> omega
theorem eqF_eq (a b : Int) : eqF a b = decide (a = b) := by
  rw [Bool.eq_iff_iff]
  cases a <;> cases b <;> simp only [eqF, beq_dec, decide_eq_true_eq, Int.ofNat_eq_natCast, Int.negSucc_eq, Bool.false_eq_true, false_iff, true_iff] <;> omega
theorem fitsF_eq (k : IntKind) (n : Int) : fitsF k n = fitsK k n := by
  cases k <;> try rfl
  rw [Bool.eq_iff_iff]
  cases n <;> simp only [fitsF, fitsK, ble_dec, Bool.and_eq_true, decide_eq_true_eq, Int.ofNat_eq_natCast, Int.negSucc_eq] <;> omega
def fastA : Ar := { std with
  add := Int.add, sub := Int.sub, mul := Int.mul
  lt := ltF, le := leF, eq := eqF, fits := fitsF
  ix := fun o i s => Nat.add o (Nat.mul i.toNat s)
  num := Int.ofNat, toN := Int.toNat, subN := Nat.sub }
theorem fastA_eq : fastA = std := by
  unfold fastA
  rw [show ltF = std.lt from funext fun a => funext fun b => ltF_eq a b, show leF = std.le from funext fun a => funext fun b => leF_eq a b,
    show eqF = std.eq from funext fun a => funext fun b => eqF_eq a b, show fitsF = std.fits from funext fun a => funext fun b => fitsF_eq a b]
  rfl
end Go.Aw
end

/-
  Contracts of functions that read lists and yield values: what must be shown of a body. No condition.
-/
set_option linter.unusedSimpArgs false
set_option linter.unusedVariables false
noncomputable section
namespace Go.Aw
open Go.RowKit

theorem bm {b : Bool} {X Y : Prop} (h1 : b = true → X) (h2 : b = false → Y) : (match (generalizing := false) b with | true => X | false => Y) := by
  cases b
  · exact h2 rfl
  · exact h1 rfl
theorem bo {α : Type} {x : Option α} {v : α} {G : α → Prop} (h : x = some v) (k : G v) : (match (generalizing := false) x with | some v => G v | none => False) := by
  subst h
  exact k

theorem boL {x : Option (List Value)} {v : List Value} {G : List Value → Prop} (h : x = some v) (k : G v) : (match (generalizing := false) x with | some v => G v | none => False) := by
  subst h
  exact k
theorem boV {x : Option Value} {v : Value} {G : Value → Prop} (h : x = some v) (k : G v) : (match (generalizing := false) x with | some v => G v | none => False) := by
  subst h
  exact k

/-- Calls that have contracts. -/
abbrev XF := List Value → Heap → Nat → KE → Prop
def CX (X : Nat → Option XF) : VC := fun f args h nx K => match X f with | some x => x args h nx K | none => False
def noY : VY := fun _ _ _ _ _ => False
theorem CX_ok {P : Program} {X : Nat → Option XF} (hX : ∀ f x, X f = some x → XOK P f x) : CallsOK P (CX X) := by
  intro f args h nx K hl ι B w H hs
  unfold CX at hl
  split at hl
  · rename_i x hx
    exact (hX f x hx).1 args h nx K hl ι B w H hs
  · exact hl.elim
theorem CX_det {P : Program} {X : Nat → Option XF} (hX : ∀ f x, X f = some x → XOK P f x) : DetC (CX X) := by
  intro f args h nx K hl
  unfold CX at hl
  split at hl
  · rename_i x hx
    obtain ⟨v, h', nx', k1, k2⟩ := (hX f x hx).2 args h nx K hl
    exact ⟨v, h', nx', k1, fun K' hk => by unfold CX; rw [hx]; exact k2 K' hk⟩
  · exact hl.elim
theorem noY_ok {P : Program} : YieldsOK P noY := fun _ _ _ _ _ hl => hl.elim
theorem noY_det : DetC noY := fun _ _ _ _ _ hl => hl.elim

theorem XOK.mono {P : Program} {f : Nat} {x x' : XF} (h : XOK P f x) (hm : ∀ args h nx K, x' args h nx K → x args h nx K) (hd : ∀ args h nx, DetE (x' args h nx)) : XOK P f x' :=
  ⟨fun args hh nx K hx => h.1 args hh nx K (hm _ _ _ _ hx), hd⟩

/-! ### values alone -/
/-- What is asked, and what is yielded. -/
def gX (s : List Value → Option (Bool × Value)) : XF := fun args h nx K => match s args with | some p => must p.1 (K p.2 h nx) | none => False
theorem app_nil (h : Heap) : app h [] = h := by
  induction h with
  | nil => rfl
  | cons x r ih => simp only [app, ih]
theorem gX_ok {P : Program} {C : VC} {f : Nat} {s : List Value → Option (Bool × Value)} (hC : CallsOK P C)
    (hs : ∀ args v, s args = some (true, v) → allGA args = true ∧ gT v = true ∧ C f args [] 0 (fun u _ _ => u = v)) : XOK P f (gX s) := by
  refine (xOf_ok (S := fun args0 h0 n0 v1 h1 m => s args0 = some (true, v1) ∧ h0 = [] ∧ n0 = 0 ∧ h1 = [] ∧ m = 0) hC ?_).mono ?_ ?_
  · rintro args0 h0 n0 v1 h1 m ⟨e1, rfl, rfl, rfl, rfl⟩
    obtain ⟨a1, a2, a3⟩ := hs args0 v1 e1
    refine ⟨rfl, ?_⟩
    exact ⟨_, a3, fun v h nx e => by rw [e]; exact Outc_g a2⟩
  · intro args h nx K hx
    unfold gX at hx
    split at hx
    · rename_i p e1
      obtain ⟨b, v⟩ := p
      obtain ⟨rfl, hx⟩ := must_iff.1 hx
      obtain ⟨a1, a2, a3⟩ := hs args v e1
      refine ⟨args, [], 0, v, [], 0, ⟨e1, rfl, rfl, rfl, rfl⟩, In_g fun u hu => allGA_mem a1 hu, ?_⟩
      simp only [past, ownH, shH, app_nil, ren_g a2, Nat.add_zero]
      exact hx
    · exact hx.elim
  · intro args h nx K hx
    unfold gX at hx
    split at hx
    · rename_i p e1
      obtain ⟨hb, hx⟩ := must_iff.1 hx
      exact ⟨p.2, h, nx, hx, fun K' hk => by unfold gX; rw [e1]; exact must_of hb hk⟩
    · exact hx.elim

/-! ### at a loop's head -/
theorem ObjRen_g {ρ : Nat → Nat} {n sz : Nat} {wr g : Bool} {cs : List Value} (hg : allG cs = true) : ObjRen ρ n (.cells wr g sz cs) (.cells wr g sz cs) :=
  ⟨rfl, rfl, rfl, (map_trS_g hg).symm, fun v hv => scS_g (allG_mem hg hv)⟩
theorem Into_id {b n0 nx : Nat} {I : KS} {e0 e : List (Nat × Value)} {h0 h : Heap} (hI : I e0 h0 n0) (he : ∀ p ∈ e0, look e p.1 = some (ren id p.2) ∧ nmT n0 p.2)
    (hh : ∀ p ∈ h0, p.1 < n0 ∧ ∃ o', look h p.1 = some o' ∧ ObjRen id n0 p.2 o') (hb : b ≤ n0) : Into b I e h nx :=
  ⟨e0, h0, n0, id, hI, fun t v hv => he (t, v) (look_mem hv), fun k o hk => hh (k, o) (look_mem hk), fun k k' o o' _ _ e => e, fun k _ => rfl, hb⟩

/-! ### lists -/
/-- A list of elements, each of so many cells, as it lies in a heap. -/
def flat {α : Type} (fl : α → List Value) : List α → List Value
  | [] => []
  | a :: r => fl a ++ flat fl r
structure El (α : Type) where
  fl : α → List Value
  sz : Nat
  len : ∀ a, (fl a).length = sz
  gr : ∀ a, allG (fl a) = true
  pos : sz ≠ 0 := by decide
section
variable {α : Type} (E : El α)
theorem flat_len (l : List α) : (flat E.fl l).length = l.length * E.sz := by
  induction l with
  | nil => simp [flat]
  | cons a r ih => simp only [flat, List.length_append, E.len, ih, List.length_cons, Nat.succ_mul]; omega
theorem flat_g (l : List α) : allG (flat E.fl l) = true := by
  induction l with
  | nil => rfl
  | cons a r ih => simp only [flat, allG_append, E.gr, ih, Bool.and_self]
theorem getN_eq {l : List Value} {o n : Nat} (h : o + n ≤ l.length) : getN l o n = some ((l.drop o).take n) := by
  induction n generalizing o with
  | zero => simp [getN]
  | succ n ih =>
    have hlt : o < l.length := by omega
    simp only [getN, nth_eq, List.getElem?_eq_getElem hlt, ih (o := o + 1) (by omega)]
    congr 1
    rw [List.drop_eq_getElem_cons hlt]
    rfl
theorem flat_at (l : List α) (i : Nat) (hi : i < l.length) : ((flat E.fl l).drop (i * E.sz)).take E.sz = E.fl l[i] := by
  induction l generalizing i with
  | nil => simp at hi
  | cons a r ih =>
    cases i with
    | zero =>
      simp only [flat, Nat.zero_mul, List.drop_zero, List.getElem_cons_zero]
      rw [List.take_append_of_le_length (by rw [E.len]; exact Nat.le_refl _), List.take_of_length_le (by rw [E.len]; exact Nat.le_refl _)]
    | succ i =>
      have hl : (fl : List Value) → True := fun _ => trivial
      simp only [flat, List.getElem_cons_succ]
      rw [show (i + 1) * E.sz = (E.fl a).length + i * E.sz by rw [E.len, Nat.succ_mul]; omega, List.drop_append, Nat.add_sub_cancel_left, List.drop_eq_nil_of_le (by omega), List.nil_append]
      exact ih i (by simpa using hi)
theorem flat_get (l : List α) {i o : Nat} (hi : i < l.length) (ho : o = i * E.sz) : getN (flat E.fl l) o E.sz = some (E.fl l[i]) := by
  subst ho
  have h1 : (i + 1) * E.sz ≤ l.length * E.sz := Nat.mul_le_mul_right _ hi
  rw [getN_eq (by rw [flat_len]; rw [Nat.succ_mul] at h1; exact h1), flat_at E l i hi]

/-- A slice, read as a list. -/
def LsAt (h : Heap) (v : Value) (l : List α) : Prop :=
  match v with
  | .slice none n c => n = 0 ∧ c = 0 ∧ l = []
  | .slice (some ⟨k, o, none⟩) n _ => n = l.length ∧ ∃ wr g sz cs, look h k = some (.cells wr g sz cs) ∧ (cs.drop o).take (flat E.fl l).length = flat E.fl l
  | _ => False
/-- Contracts that read one list. -/
def lX (s : List α → List Value → Option (Bool × Value)) : XF := fun args h nx K => match args with
  | v :: r => ∃ l, LsAt E h v l ∧ (match s l r with | some p => must p.1 (K p.2 h nx) | none => False)
  | _ => False

theorem In_nil {r : List Value} (hr : allGA r = true) {h : Heap} {nx : Nat} (g0 : Bool) (sz : Nat) (hz : sz ≠ 0) : In (.slice (some ⟨0, 0, none⟩) 0 0 :: r) [(0, .cells false g0 sz [])] 1 (.slice none 0 0 :: r) h nx := by
  intro ι B w H hs
  have hmap : ∀ ι1 ι2 : Nat → Loc, r.map (tr ι1) = r.map (tr ι2) := fun ι1 ι2 => List.map_congr_left fun v hv => by rw [tr_g (allGA_mem hr hv), tr_g (allGA_mem hr hv)]
  refine ⟨fun _ => .nil none, ?_, ?_, ⟨?_, ?_, ?_, Nat.le_refl _, ?_⟩⟩
  · rw [List.map_cons, List.map_cons, hmap ι]
    rfl
  · intro v hv
    cases hv with
    | head => exact ⟨Nat.one_pos, fun _ => ⟨rfl, rfl⟩⟩
    | tail _ hm => exact scT_g (allGA_mem hr hm)
  · intro j q hq
    rw [look_cons] at hq
    split at hq
    · injection hq with hq; subst hq; exact ⟨rfl, fun h => h.elim (fun h => absurd h hz) (fun h => by cases h)⟩
    · exact noLook hq
  · intro j j' q q' hq hq' hne ha b hb
    cases hb
  · intro j q hq
    rw [look_cons] at hq
    split at hq
    · rename_i hb; rw [← beq_true hb]; exact Nat.one_pos
    · exact noLook hq
  · intro j q hq
    rw [look_cons] at hq
    split at hq
    · injection hq with hq; subst hq; intro v hv; cases hv
    · exact noLook hq

theorem lX_ok {P : Program} {C : VC} {f : Nat} {s : List α → List Value → Option (Bool × Value)} (hC : CallsOK P C)
    (hs : ∀ l r v, s l r = some (true, v) → allGA r = true ∧ gT v = true ∧ ∀ c, C f (.slice (some ⟨0, 0, none⟩) l.length c :: r) [(0, .cells false true E.sz (flat E.fl l))] 1 (fun u _ _ => u = v)) : XOK P f (lX E s) := by
  refine (xOf_ok (S := fun args0 h0 n0 v1 h1 m => ∃ l r c, s l r = some (true, v1) ∧ args0 = .slice (some ⟨0, 0, none⟩) l.length c :: r ∧ h0 = [(0, .cells false true E.sz (flat E.fl l))] ∧ n0 = 1 ∧ h1 = [] ∧ m = 0) hC ?_).mono ?_ ?_
  · rintro args0 h0 n0 v1 h1 m ⟨l, r, c, e1, rfl, rfl, rfl, rfl, rfl⟩
    obtain ⟨a1, a2, a3⟩ := hs l r v1 e1
    exact ⟨rfl, _, a3 c, fun v h nx e => by rw [e]; exact Outc_g a2⟩
  · intro args h nx K hx
    unfold lX at hx
    split at hx
    case h_2 => exact hx.elim
    rename_i v r
    obtain ⟨l, hl, hx⟩ := hx
    split at hx
    case h_2 => exact hx.elim
    rename_i p e1
    obtain ⟨b, u⟩ := p
    obtain ⟨rfl, hx⟩ := must_iff.1 hx
    obtain ⟨a1, a2, a3⟩ := hs l r u e1
    have hK : K (ren (fun k => nx + k) u) (app (past [] h) (shH nx [])) (nx + 0) := by
      simp only [past, ownH, shH, app_nil, ren_g a2, Nat.add_zero]
      exact hx
    unfold LsAt at hl
    split at hl
    · rename_i n c
      obtain ⟨rfl, rfl, rfl⟩ := hl
      exact ⟨_, _, 1, u, [], 0, ⟨[], r, 0, e1, rfl, rfl, rfl, rfl, rfl⟩, In_nil a1 true E.sz E.pos, hK⟩
    · rename_i k o n c
      obtain ⟨rfl, wr, g, sz, cs, hk, hcs⟩ := hl
      exact ⟨_, _, 1, u, [], 0, ⟨l, r, c, e1, rfl, rfl, rfl, rfl, rfl⟩, In_sl a1 hk hcs (flat_g E l) true E.sz E.pos, hK⟩
    · exact hl.elim
  · intro args h nx K hx
    unfold lX at hx
    split at hx
    case h_2 => exact hx.elim
    rename_i v r
    obtain ⟨l, hl, hx⟩ := hx
    split at hx
    case h_2 => exact hx.elim
    rename_i p e1
    obtain ⟨hb, hx⟩ := must_iff.1 hx
    exact ⟨p.2, h, nx, hx, fun K' hk => ⟨l, hl, by rw [e1]; exact must_of hb hk⟩⟩
end
end Go.Aw
end

/-
  Points on a line. Plain arithmetic. No condition.
-/
namespace Go.Aw
theorem mul_pos_cancel {D u : Int} (hD : 0 < D) (h : 0 ≤ D * u) : 0 ≤ u := by
  by_cases hu : 0 ≤ u
  · exact hu
  · have : 0 < D * (-u) := Int.mul_pos hD (by omega)
    rw [Int.mul_neg] at this
    omega
theorem coll {D E t u : Int} (h : D * u = E * t) (hD : 0 < D) (h0 : 0 ≤ t) (h1 : t ≤ D) : (0 ≤ E → 0 ≤ u ∧ u ≤ E) ∧ (E ≤ 0 → E ≤ u ∧ u ≤ 0) := by
  refine ⟨fun hE => ⟨?_, ?_⟩, fun hE => ⟨?_, ?_⟩⟩
  · exact mul_pos_cancel hD (by rw [h]; exact Int.mul_nonneg hE h0)
  · have h2 : 0 ≤ D * (E - u) := by
      rw [Int.mul_sub, h, Int.mul_comm D E, ← Int.mul_sub]
      exact Int.mul_nonneg hE (by omega)
    have := mul_pos_cancel hD h2
    omega
  · have h2 : 0 ≤ D * (u - E) := by
      rw [Int.mul_sub, h, Int.mul_comm D E, ← Int.mul_sub]
      rw [show E * (t - D) = (-E) * (D - t) by rw [Int.neg_mul, ← Int.mul_neg]; congr 1; omega]
      exact Int.mul_nonneg (by omega) (by omega)
    have := mul_pos_cancel hD h2
    omega
  · have h2 : 0 ≤ D * (-u) := by
      rw [Int.mul_neg, h, ← Int.neg_mul]
      exact Int.mul_nonneg (by omega) h0
    have := mul_pos_cancel hD h2
    omega
theorem coll0 {D u : Int} (h : D * u = 0) (hD : D ≠ 0) : u = 0 := by
  rcases Int.mul_eq_zero.1 h with h | h
  · exact absurd h hD
  · exact h
/-- A point on the line of a and b, a left of b: between by order is between by both coordinates. -/
theorem lex_box {ax ay bx b2 px py : Int} (h : (bx - ax) * (py - ay) = (b2 - ay) * (px - ax)) (hlt : ax < bx) :
    ((ax < px ∨ (ax = px ∧ ay ≤ py)) ∧ (px < bx ∨ (px = bx ∧ py ≤ b2))) ↔ ((ax ≤ px ∧ px ≤ bx) ∧ ((ay ≤ b2 → ay ≤ py ∧ py ≤ b2) ∧ (b2 ≤ ay → b2 ≤ py ∧ py ≤ ay))) := by
  constructor
  · intro ⟨h1, h2⟩
    have hx : ax ≤ px ∧ px ≤ bx := by omega
    have hc := coll (D := bx - ax) (E := b2 - ay) (t := px - ax) (u := py - ay) h (by omega) (by omega) (by omega)
    refine ⟨hx, fun he => ?_, fun he => ?_⟩
    · have := hc.1 (by omega); omega
    · have := hc.2 (by omega); omega
  · intro ⟨h1, h2, h3⟩
    have hc := coll (D := bx - ax) (E := b2 - ay) (t := px - ax) (u := py - ay) h (by omega) (by omega) (by omega)
    refine ⟨?_, ?_⟩
    · by_cases e : ax < px
      · exact .inl e
      · have e : ax = px := by omega
        subst e
        rw [Int.sub_self, Int.mul_zero] at h
        have := coll0 h (by omega)
        exact .inr ⟨rfl, by omega⟩
    · by_cases e : px < bx
      · exact .inl e
      · have e : px = bx := by omega
        subst e
        have h4 : (px - ax) * (py - b2) = 0 := by
          rw [show py - b2 = (py - ay) - (b2 - ay) by omega, Int.mul_sub, h, Int.mul_comm (b2 - ay)]
          omega
        have := coll0 h4 (by omega)
        exact .inr ⟨rfl, by omega⟩
end Go.Aw

/-
  Contracts of functions that yield a list of their own. No condition.
-/
set_option linter.unusedSimpArgs false
set_option linter.unusedVariables false
noncomputable section
namespace Go.Aw
open Go.RowKit

/-- At a loop's head, where one thing lies at a new name. -/
def mv (k0 q : Nat) : Nat → Nat := fun k => match Nat.beq k k0 with | true => q | false => k
theorem mv_ne {k0 q k : Nat} (h : k ≠ k0) : mv k0 q k = k := by
  unfold mv
  split
  · rename_i hb; exact absurd (beq_true hb) h
  · rfl
theorem mv_eq (k0 q : Nat) : mv k0 q k0 = q := by
  unfold mv
  rw [Nat.beq_refl]
theorem Into_mv {b n0 nx : Nat} {I : KS} {e0 e : List (Nat × Value)} {h0 h : Heap} (k0 q : Nat) (hb : b ≤ k0) (hbn : b ≤ n0) (hI : I e0 h0 n0) (he : ∀ p ∈ e0, look e p.1 = some (ren (mv k0 q) p.2) ∧ nmT n0 p.2)
    (hh : ∀ p ∈ h0, p.1 < n0 ∧ ∃ o', look h (mv k0 q p.1) = some o' ∧ ObjRen (mv k0 q) n0 p.2 o') (hq : ∀ p ∈ h0, p.1 ≠ k0 → p.1 ≠ q) : Into b I e h nx := by
  refine ⟨e0, h0, n0, mv k0 q, hI, fun t v hv => he (t, v) (look_mem hv), fun k o hk => hh (k, o) (look_mem hk), fun k k' o o' hk hk' e => ?_, fun k hk => mv_ne (by omega), hbn⟩
  by_cases h1 : k = k0
  · by_cases h2 : k' = k0
    · rw [h1, h2]
    · subst h1
      rw [mv_eq, mv_ne h2] at e
      exact absurd e.symm (hq (k', o') (look_mem hk') h2)
  · by_cases h2 : k' = k0
    · subst h2
      rw [mv_eq, mv_ne h1] at e
      exact absurd e (hq (k, o) (look_mem hk) h1)
    · rw [mv_ne h1, mv_ne h2] at e
      exact e

/-- A slice alone, or with an error beside it. -/
def wrapV : Option Int → Value → Value
  | none, v => v
  | some e, v => .tuple #[v, .int .i64 e]
section
variable {α : Type} (E : El α)
/-- What is asked; the list yielded; the error beside it. -/
def fX (s : List Value → Option (Bool × List α × Option Int)) : XF := fun args h nx K => match s args with
  | some p => must p.1 (match p.2.1 with
    | [] => K (wrapV p.2.2 (.slice none 0 0)) h nx
    | a :: r => K (wrapV p.2.2 (.slice (some ⟨nx, 0, none⟩) (a :: r).length (a :: r).length)) (app h [(nx, .cells true false E.sz (flat E.fl (a :: r)))]) (nx + 1))
  | none => False
/-- The end of a body that yields a list. -/
def Yields (l : List α) (e : Option Int) : KE := fun v h _ => match l with
  | [] => v = wrapV e (.slice none 0 0)
  | a :: r => ∃ q, v = wrapV e (.slice (some ⟨q, 0, none⟩) (a :: r).length (a :: r).length) ∧ look h q = some (.cells true false E.sz (flat E.fl (a :: r)))
theorem wrapV_ren {ρ : Nat → Nat} (e : Option Int) {k n c : Nat} : ren ρ (wrapV e (.slice (some ⟨k, 0, none⟩) n c)) = wrapV e (.slice (some ⟨ρ k, 0, none⟩) n c) := by
  cases e with
  | none => rfl
  | some e => simp [wrapV, ren, tr, trA, trS, trP, at0]
theorem wrapV_nil (e : Option Int) : gT (wrapV e (.slice none 0 0)) = true := by cases e <;> rfl
theorem wrapV_nm (e : Option Int) (n c : Nat) : nmT 1 (wrapV e (.slice (some ⟨0, 0, none⟩) n c)) := by
  cases e with
  | none => exact ⟨Nat.one_pos, fun h => by cases h⟩
  | some e =>
    intro v hv
    simp at hv
    rcases hv with rfl | rfl
    · exact ⟨Nat.one_pos, fun h => by cases h⟩
    · trivial
theorem fX_ok {P : Program} {C : VC} {f : Nat} {s : List Value → Option (Bool × List α × Option Int)} (hC : CallsOK P C)
    (hs : ∀ args l e, s args = some (true, l, e) → allGA args = true ∧ C f args [] 0 (Yields E l e)) : XOK P f (fX E s) := by
  refine (xOf_ok (S := fun args0 h0 n0 v1 h1 m => ∃ l e, s args0 = some (true, l, e) ∧ h0 = [] ∧ n0 = 0 ∧ (match l with
    | [] => v1 = wrapV e (.slice none 0 0) ∧ h1 = [] ∧ m = 0
    | a :: r => v1 = wrapV e (.slice (some ⟨0, 0, none⟩) (a :: r).length (a :: r).length) ∧ h1 = [(0, .cells true false E.sz (flat E.fl (a :: r)))] ∧ m = 1)) hC ?_).mono ?_ ?_
  · rintro args0 h0 n0 v1 h1 m ⟨l, e, e1, rfl, rfl, hl⟩
    obtain ⟨a1, a2⟩ := hs args0 l e e1
    cases l with
    | nil =>
      obtain ⟨rfl, rfl, rfl⟩ := hl
      exact ⟨rfl, _, a2, fun v h nx hv => by rw [show v = _ from hv]; exact Outc_g (wrapV_nil e)⟩
    | cons a r =>
      obtain ⟨rfl, rfl, rfl⟩ := hl
      refine ⟨rfl, _, a2, fun v h nx hv => ?_⟩
      obtain ⟨q, rfl, hq⟩ := hv
      refine ⟨fun _ => q, ⟨fun t u hu => ?_, fun k o hk => ?_, fun k k' o o' hk hk' _ => ?_, fun k hk => absurd hk (Nat.not_lt_zero k), Nat.zero_le _⟩⟩
      · rw [look_cons] at hu
        split at hu
        · rename_i hb
          injection hu with hu
          subst hu
          exact ⟨by rw [look_cons, hb, wrapV_ren], wrapV_nm e _ _⟩
        · exact noLook hu
      · rw [look_cons] at hk
        split at hk
        · rename_i hb
          injection hk with hk
          subst hk
          exact ⟨by rw [← beq_true hb]; exact Nat.one_pos, _, hq, ObjRen_g (flat_g E _)⟩
        · exact noLook hk
      · rw [look_cons] at hk hk'
        split at hk
        · rename_i hb1
          split at hk'
          · rename_i hb2; exact (beq_true hb1).symm.trans (beq_true hb2)
          · exact noLook hk'
        · exact noLook hk
  · intro args h nx K hx
    unfold fX at hx
    split at hx
    case h_2 => exact hx.elim
    rename_i p e1
    obtain ⟨b, l, e⟩ := p
    obtain ⟨rfl, hx⟩ := must_iff.1 hx
    obtain ⟨a1, a2⟩ := hs args l e e1
    cases l with
    | nil =>
      refine ⟨args, [], 0, _, [], 0, ⟨[], e, e1, rfl, rfl, rfl, rfl, rfl⟩, In_g fun u hu => allGA_mem a1 hu, ?_⟩
      simp only [past, ownH, shH, app_nil, ren_g (wrapV_nil e), Nat.add_zero]
      exact hx
    | cons a r =>
      refine ⟨args, [], 0, _, [(0, .cells true false E.sz (flat E.fl (a :: r)))], 1, ⟨a :: r, e, e1, rfl, rfl, rfl, rfl, rfl⟩, In_g fun u hu => allGA_mem a1 hu, ?_⟩
      have hm : (flat E.fl (a :: r)).map (ren1 (fun k => nx + k)) = flat E.fl (a :: r) := map_trS_g (flat_g E _)
      simp only [past, ownH, isOwn, Bool.and_self, shH, shO, hm, wrapV_ren, Nat.add_zero]
      exact hx
  · intro args h nx K hx
    unfold fX at hx
    split at hx
    case h_2 => exact hx.elim
    rename_i p e1
    obtain ⟨hb, hx⟩ := must_iff.1 hx
    cases hl : p.2.1 with
    | nil =>
      rw [hl] at hx
      exact ⟨_, _, _, hx, fun K' hk => by unfold fX; rw [e1]; simp only [hl]; exact must_of hb hk⟩
    | cons a r =>
      rw [hl] at hx
      exact ⟨_, _, _, hx, fun K' hk => by unfold fX; rw [e1]; simp only [hl]; exact must_of hb hk⟩
end
end Go.Aw
end

/-
  Two lines: on which sides points lie. Plain arithmetic. No condition.
-/
namespace Go.Aw
/-- cross product of (ex,ey) and (ux,uy) is zero; q, r: cross products of w with u and with e -/
theorem par {ex ey ux uy wx wy : Int} (h : ex * uy = ey * ux) : ex * (wx * uy - wy * ux) = ux * (wx * ey - wy * ex) := by
  have h1 : ex * (wx * uy) = wx * (ey * ux) := by rw [← h, ← Int.mul_assoc, Int.mul_comm ex wx, Int.mul_assoc]
  rw [Int.mul_sub, Int.mul_sub, h1]
  congr 1
  · rw [← Int.mul_assoc, Int.mul_comm (wx * ey), ← Int.mul_assoc, Int.mul_comm ux]
  · rw [← Int.mul_assoc, Int.mul_comm ex, Int.mul_assoc, Int.mul_comm ex, ← Int.mul_assoc, Int.mul_comm wy, Int.mul_assoc]
/-- signs: the point with part ux of ex lies between iff the two sides differ -/
theorem sides {ex ux q r : Int} (he : 0 < ex) (h : ex * q = ux * r) (hne : ¬ (q = 0 ∧ r - q = 0)) : (0 ≤ ux ∧ ux ≤ ex) ↔ (0 ≤ q * (r - q)) := by
  have hr : r ≠ 0 := by
    intro hr
    subst hr
    rw [Int.mul_zero] at h
    have : q = 0 := by
      rcases Int.mul_eq_zero.1 h with h | h
      · omega
      · exact h
    exact hne ⟨this, by omega⟩
  have e2 : ex * (r - q) = (ex - ux) * r := by rw [Int.mul_sub, Int.sub_mul, h]
  have key : (ex * ex) * (q * (r - q)) = (ux * (ex - ux)) * (r * r) := by
    calc (ex * ex) * (q * (r - q)) = (ex * q) * (ex * (r - q)) := by
          rw [Int.mul_assoc, Int.mul_assoc, ← Int.mul_assoc ex q, Int.mul_comm ex q, Int.mul_assoc q ex]
      _ = (ux * r) * ((ex - ux) * r) := by rw [h, e2]
      _ = (ux * (ex - ux)) * (r * r) := by
          rw [Int.mul_assoc, Int.mul_assoc, ← Int.mul_assoc r, Int.mul_comm r (ex - ux), Int.mul_assoc (ex - ux)]
  have hrr : 0 < r * r := by
    rcases Int.lt_or_gt_of_ne hr with h | h
    · exact Int.mul_pos_of_neg_of_neg h h
    · exact Int.mul_pos h h
  have hee : 0 < ex * ex := Int.mul_pos he he
  constructor
  · intro ⟨h1, h2⟩
    have h3 : 0 ≤ (ux * (ex - ux)) * (r * r) := Int.mul_nonneg (Int.mul_nonneg h1 (by omega)) (by omega)
    rw [← key] at h3
    by_cases hq : 0 ≤ q * (r - q)
    · exact hq
    · have : (ex * ex) * (q * (r - q)) < 0 := Int.mul_neg_of_pos_of_neg hee (by omega)
      omega
  · intro hq
    have h3 : 0 ≤ (ex * ex) * (q * (r - q)) := Int.mul_nonneg (by omega) hq
    rw [key] at h3
    have h4 : 0 ≤ ux * (ex - ux) := by
      by_cases h4 : 0 ≤ ux * (ex - ux)
      · exact h4
      · have : (ux * (ex - ux)) * (r * r) < 0 := Int.mul_neg_of_neg_of_pos (by omega) hrr
        omega
    constructor
    · by_cases h5 : 0 ≤ ux
      · exact h5
      · have : ux * (ex - ux) < 0 := Int.mul_neg_of_neg_of_pos (by omega) (by omega)
        omega
    · by_cases h5 : ux ≤ ex
      · exact h5
      · have : ux * (ex - ux) < 0 := Int.mul_neg_of_pos_of_neg (by omega) (by omega)
        omega
end Go.Aw

/-
  Two segments: boxes and sides, lines that meet once, one line. Plain arithmetic. No condition.
-/
namespace Go.Aw
theorem posdiv {a b : Int} (ha : 0 < a) (h : 0 ≤ a * b) : 0 ≤ b := by
  by_cases hb : 0 ≤ b
  · exact hb
  · have : a * b < 0 := Int.mul_neg_of_pos_of_neg ha (by omega)
    omega
/-- within x's range, then within y's -/
theorem boxy {ex ey ux uy : Int} (he : 0 < ex) (h : ex * uy = ey * ux) (h0 : 0 ≤ ux) (h1 : ux ≤ ex) : (0 ≤ ey → 0 ≤ uy ∧ uy ≤ ey) ∧ (ey ≤ 0 → ey ≤ uy ∧ uy ≤ 0) := by
  have e2 : ex * (ey - uy) = ey * (ex - ux) := by
    rw [Int.mul_sub, Int.mul_sub, h, Int.mul_comm ex ey]
  constructor
  · intro hy
    constructor
    · exact posdiv he (by rw [h]; exact Int.mul_nonneg hy h0)
    · have := posdiv he (show 0 ≤ ex * (ey - uy) by rw [e2]; exact Int.mul_nonneg hy (by omega))
      omega
  · intro hy
    constructor
    · have : 0 ≤ ex * (uy - ey) := by
        have : ex * (uy - ey) = (-ey) * (ex - ux) := by
          rw [Int.neg_mul, ← e2, ← Int.mul_neg]; congr 1; omega
        rw [this]; exact Int.mul_nonneg (by omega) (by omega)
      have := posdiv he this
      omega
    · have : 0 ≤ ex * (-uy) := by
        rw [Int.mul_neg, h, ← Int.neg_mul]; exact Int.mul_nonneg (by omega) h0
      have := posdiv he this
      omega
def inb (e u : Int) : Prop := (if 0 < e then 0 else e) ≤ u ∧ u ≤ (if e < 0 then 0 else e)
theorem inb_neg {e u : Int} : inb (-e) (-u) ↔ inb e u := by
  unfold inb
  split <;> split <;> split <;> split <;> omega
theorem inb_pos {e u : Int} (h : 0 < e) : inb e u ↔ (0 ≤ u ∧ u ≤ e) := by
  unfold inb
  split <;> split <;> omega
theorem boxside1 {ex ey ux uy q r : Int} (he : 0 < ex) (h : ex * uy = ey * ux) (h1 : ex * q = ux * r) (hne : ¬ (q = 0 ∧ r - q = 0)) : (inb ex ux ∧ inb ey uy) ↔ 0 ≤ q * (r - q) := by
  rw [← sides he h1 hne, inb_pos he]
  constructor
  · exact fun h => h.1
  · intro h2
    refine ⟨h2, ?_⟩
    obtain ⟨k1, k2⟩ := boxy he h h2.1 h2.2
    unfold inb
    by_cases hy : 0 ≤ ey
    · have := k1 hy
      split <;> split <;> omega
    · have := k2 (by omega)
      split <;> split <;> omega
theorem boxside {ex ey ux uy q r : Int} (he : ¬ (ex = 0 ∧ ey = 0)) (h : ex * uy = ey * ux) (h1 : ex * q = ux * r) (h2 : ey * q = uy * r) (hne : ¬ (q = 0 ∧ r - q = 0)) : (inb ex ux ∧ inb ey uy) ↔ 0 ≤ q * (r - q) := by
  by_cases a1 : 0 < ex
  · exact boxside1 a1 h h1 hne
  · by_cases a2 : ex < 0
    · rw [← inb_neg (e := ex), ← inb_neg (e := ey)]
      exact boxside1 (by omega) (by rw [Int.neg_mul_neg, Int.neg_mul_neg, h]) (by rw [Int.neg_mul, Int.neg_mul, h1]) hne
    · by_cases a3 : 0 < ey
      · rw [And.comm]
        exact boxside1 a3 h.symm h2 hne
      · rw [← inb_neg (e := ex), ← inb_neg (e := ey), And.comm]
        exact boxside1 (by omega) (by rw [Int.neg_mul_neg, Int.neg_mul_neg, h]) (by rw [Int.neg_mul, Int.neg_mul, h2]) hne
/-- two lines that are not parallel meet once -/
theorem once {ex ey wx wy vx vy : Int} (hd : ex * wy - ey * wx ≠ 0) (h1 : ex * vy = ey * vx) (h2 : wx * vy = wy * vx) : vx = 0 ∧ vy = 0 := by
  constructor
  · have : (ex * wy - ey * wx) * vx = 0 := by
      rw [Int.sub_mul, Int.mul_assoc, ← h2, Int.mul_right_comm ey, ← h1, Int.mul_assoc, Int.mul_comm vy, Int.sub_self]
    rcases Int.mul_eq_zero.1 this with h | h
    · exact absurd h hd
    · exact h
  · have : (ex * wy - ey * wx) * vy = 0 := by
      rw [Int.sub_mul, Int.mul_assoc ey, h2, Int.mul_right_comm ex, h1, ← Int.mul_assoc, Int.mul_right_comm ey, Int.sub_self]
    rcases Int.mul_eq_zero.1 this with h | h
    · exact absurd h hd
    · exact h
/-- two vectors parallel to a third -/
theorem para {ex ey wx wy vx vy : Int} (hw : ¬ (wx = 0 ∧ wy = 0)) (h1 : wx * ey = wy * ex) (h2 : wx * vy = wy * vx) : ex * vy = ey * vx := by
  have k1 : wx * (ex * vy - ey * vx) = 0 := by
    rw [Int.mul_sub, ← Int.mul_assoc, Int.mul_right_comm, h2, ← Int.mul_assoc, h1, Int.mul_right_comm, Int.sub_self]
  have k2 : wy * (ex * vy - ey * vx) = 0 := by
    rw [Int.mul_sub, ← Int.mul_assoc, ← h1, Int.mul_left_comm wy, ← h2, Int.mul_left_comm ey, Int.mul_assoc, Int.sub_self]
  by_cases h : wx = 0
  · rcases Int.mul_eq_zero.1 k2 with h' | h'
    · exact absurd ⟨h, h'⟩ hw
    · omega
  · rcases Int.mul_eq_zero.1 k1 with h' | h'
    · exact absurd h' h
    · omega
end Go.Aw

/-
  Short words for proofs of contracts. No condition.
-/
set_option linter.unusedSimpArgs false
set_option linter.unusedVariables false
noncomputable section
namespace Go.Aw
theorem ObjRen_j {ρ : Nat → Nat} {n sz : Nat} {wr g : Bool} {cs cs' : List Value} (hg : allG cs = true) (e : cs' = cs) : ObjRen ρ n (.cells wr g sz cs) (.cells wr g sz cs') := by
  subst e
  exact ObjRen_g hg
theorem gX_weak {P : Program} {f : Nat} {s s' : List Value → Option (Bool × Value)} (h : XOK P f (gX s)) (hw : ∀ args v, s' args = some (true, v) → s args = some (true, v)) : XOK P f (gX s') := by
  refine h.mono ?_ ?_
  · intro args h nx K hx
    unfold gX at hx ⊢
    split at hx
    · rename_i p e1
      obtain ⟨b, v⟩ := p
      obtain ⟨rfl, hx⟩ := must_iff.1 hx
      rw [hw args v e1]
      exact must_of rfl hx
    · exact hx.elim
  · intro args h nx K hx
    unfold gX at hx
    split at hx
    · rename_i p e1
      obtain ⟨hb, hx⟩ := must_iff.1 hx
      exact ⟨p.2, h, nx, hx, fun K' hk => by unfold gX; rw [e1]; exact must_of hb hk⟩
    · exact hx.elim
theorem flat_append {α : Type} (fl : α → List Value) (l m : List α) : flat fl (l ++ m) = flat fl l ++ flat fl m := by
  induction l with
  | nil => rfl
  | cons a r ih => simp only [List.cons_append, flat, ih, List.append_assoc]
theorem Yields_own {α : Type} (E : El α) {l : List α} {e : Option Int} {h : Heap} {q nx : Nat} (hl : 0 < l.length) (hq : look h q = some (.cells true false E.sz (flat E.fl l))) : Yields E l e (wrapV e (.slice (some ⟨q, 0, none⟩) l.length l.length)) h nx := by
  cases l with
  | nil => cases hl
  | cons a r => exact ⟨q, rfl, hq⟩
end Go.Aw
end

/-
  Contracts of functions that read lists and yield lists; calls put in place. No condition.
-/
set_option linter.unusedSimpArgs false
set_option linter.unusedVariables false
noncomputable section
namespace Go.Aw
open Go.RowKit
/-- Some calls in place, the others by contracts. -/
def memF (f : Nat) : List Nat → Bool
  | [] => false
  | g :: r => Nat.beq f g || memF f r
def mixC (c : Cfg) (vs : List Nat) (X : Nat → Option XF) : VC := fun f args h nx K => match memF f vs with
  | true => vcall c 3 false f args h nx K
  | false => CX X f args h nx K
theorem mixC_ok {P : Program} {c : Cfg} (hc : CfgOK P c) {vs : List Nat} {X : Nat → Option XF} (hX : ∀ f x, X f = some x → XOK P f x) : CallsOK P (mixC c vs X) := by
  intro f args h nx K hl
  unfold mixC at hl
  split at hl
  · exact (vcall_ok hc 3).1 f args h nx K hl
  · exact CX_ok hX f args h nx K hl
theorem mixC_det {P : Program} {c : Cfg} (hc : CfgOK P c) {vs : List Nat} {X : Nat → Option XF} (hX : ∀ f x, X f = some x → XOK P f x) : DetC (mixC c vs X) := by
  intro f args h nx
  cases hm : memF f vs with
  | true =>
    have e : (fun K => mixC c vs X f args h nx K) = fun K => vcall c 3 false f args h nx K := by
      funext K
      unfold mixC
      rw [hm]
    show DetE (fun K => mixC c vs X f args h nx K)
    rw [e]
    exact (vcall_ok hc 3).2.2.1 f args h nx
  | false =>
    have e : (fun K => mixC c vs X f args h nx K) = fun K => CX X f args h nx K := by
      funext K
      unfold mixC
      rw [hm]
    show DetE (fun K => mixC c vs X f args h nx K)
    rw [e]
    exact CX_det hX f args h nx
theorem In_shut {args : List Value} {h : Heap} {nx : Nat} : In args (shutH h) nx args h nx :=
  fun ι B w H hs => ⟨ι, rfl, hs, H.shut⟩
/-! ### what yields a list -/
section
variable {α β : Type} (E : El α)
def vOf (l : List α) (e : Option Int) : Value := match l with
  | [] => wrapV e (.slice none 0 0)
  | a :: r => wrapV e (.slice (some ⟨0, 0, none⟩) (a :: r).length (a :: r).length)
def hOf (l : List α) : Heap := match l with
  | [] => []
  | a :: r => [(0, .cells true false E.sz (flat E.fl (a :: r)))]
def mOf (l : List α) : Nat := match l with
  | [] => 0
  | _ :: _ => 1
theorem Yields_Outc {l : List α} {e : Option Int} {v : Value} {h : Heap} {nx : Nat} (hv : Yields E l e v h nx) : Outc (vOf l e) (hOf E l) (mOf l) v h nx := by
  cases l with
  | nil =>
    rw [show v = _ from hv]
    exact Outc_g (wrapV_nil e)
  | cons a r =>
    obtain ⟨q, rfl, hq⟩ := hv
    refine ⟨fun _ => q, ⟨fun t u hu => ?_, fun k o hk => ?_, fun k k' o o' hk hk' _ => ?_, fun k hk => absurd hk (Nat.not_lt_zero k), Nat.zero_le _⟩⟩
    · rw [look_cons] at hu
      split at hu
      · rename_i hb
        injection hu with hu
        subst hu
        exact ⟨by rw [look_cons, hb]; show _ = some (ren (fun _ => q) (wrapV e (.slice (some ⟨0, 0, none⟩) (a :: r).length (a :: r).length))); rw [wrapV_ren], wrapV_nm e _ _⟩
      · exact noLook hu
    · rw [show hOf E (a :: r) = [(0, .cells true false E.sz (flat E.fl (a :: r)))] from rfl, look_cons] at hk
      split at hk
      · rename_i hb
        injection hk with hk
        subst hk
        exact ⟨by rw [← beq_true hb]; exact Nat.one_pos, _, hq, ObjRen_g (flat_g E _)⟩
      · exact noLook hk
    · rw [show hOf E (a :: r) = [(0, .cells true false E.sz (flat E.fl (a :: r)))] from rfl, look_cons] at hk hk'
      split at hk
      · rename_i hb1
        split at hk'
        · rename_i hb2; exact (beq_true hb1).symm.trans (beq_true hb2)
        · exact noLook hk'
      · exact noLook hk
def outK (l : List α) (e : Option Int) (h : Heap) (nx : Nat) (K : KE) : Prop := match l with
  | [] => K (wrapV e (.slice none 0 0)) h nx
  | a :: r => K (wrapV e (.slice (some ⟨nx, 0, none⟩) (a :: r).length (a :: r).length)) (app h [(nx, .cells true false E.sz (flat E.fl (a :: r)))]) (nx + 1)
theorem outK_eq {l : List α} {e : Option Int} {h : Heap} {nx : Nat} {K : KE} (hk : outK E l e h nx K) : K (ren (fun k => nx + k) (vOf l e)) (app (past (hOf E l) h) (shH nx (hOf E l))) (nx + mOf l) := by
  cases l with
  | nil =>
    show K (ren (fun k => nx + k) (wrapV e (.slice none 0 0))) (app h []) (nx + 0)
    rw [ren_g (wrapV_nil e), app_nil]
    exact hk
  | cons a r =>
    have hm : (flat E.fl (a :: r)).map (ren1 (fun k => nx + k)) = flat E.fl (a :: r) := map_trS_g (flat_g E _)
    show K (ren (fun k => nx + k) (wrapV e (.slice (some ⟨0, 0, none⟩) (a :: r).length (a :: r).length))) (app h [(nx + 0, .cells true false E.sz ((flat E.fl (a :: r)).map (ren1 (fun k => nx + k))))]) (nx + 1)
    rw [wrapV_ren, hm]
    exact hk
theorem cellsH_of (l : List α) : cellsH (hOf E l) = true := by cases l <;> rfl
/-- Contracts of functions that yield a list; what is given is told outright. -/
def yOf (T : List Value → Heap → Nat → List α → Option Int → Prop) : XF := xOf fun args0 h0 n0 v1 h1 m => ∃ l e, T args0 h0 n0 l e ∧ v1 = vOf l e ∧ h1 = hOf E l ∧ m = mOf l
theorem yOf_ok {P : Program} {C : VC} {f : Nat} {T : List Value → Heap → Nat → List α → Option Int → Prop} (hC : CallsOK P C) (hT : ∀ args0 h0 n0 l e, T args0 h0 n0 l e → C f args0 h0 n0 (Yields E l e)) : XOK P f (yOf E T) :=
  xOf_ok hC fun args0 h0 n0 v1 h1 m ⟨l, e, ht, hv, hh, hm⟩ => by
    subst hv hh hm
    exact ⟨cellsH_of E l, _, hT _ _ _ _ _ ht, fun v h nx hq => Yields_Outc E hq⟩
theorem yOf_use {T : List Value → Heap → Nat → List α → Option Int → Prop} {args0 : List Value} {h0 : Heap} {n0 : Nat} {l : List α} {e : Option Int} {args : List Value} {h : Heap} {nx : Nat} {K : KE} (ht : T args0 h0 n0 l e) (hi : In args0 h0 n0 args h nx) (hk : outK E l e h nx K) : yOf E T args h nx K :=
  ⟨args0, h0, n0, _, _, _, ⟨l, e, ht, rfl, rfl, rfl⟩, hi, outK_eq E hk⟩
/-- Contracts that read one list and yield a list of their own. -/
def rfX (E2 : El β) (s : List α → List Value → Option (Bool × List β × Option Int)) : XF := fun args h nx K => match args with
  | v :: r => ∃ l, LsAt E h v l ∧ (match s l r with | some p => must p.1 (outK E2 p.2.1 p.2.2 h nx K) | none => False)
  | _ => False
theorem rfX_ok (E2 : El β) {P : Program} {C : VC} {f : Nat} {s : List α → List Value → Option (Bool × List β × Option Int)} (hC : CallsOK P C)
    (hs : ∀ l r out e, s l r = some (true, out, e) → allGA r = true ∧ ∀ c, C f (.slice (some ⟨0, 0, none⟩) l.length c :: r) [(0, .cells false true E.sz (flat E.fl l))] 1 (Yields E2 out e)) : XOK P f (rfX E E2 s) := by
  refine (yOf_ok E2 (T := fun args0 h0 n0 out e => ∃ l r c, s l r = some (true, out, e) ∧ args0 = .slice (some ⟨0, 0, none⟩) l.length c :: r ∧ h0 = [(0, .cells false true E.sz (flat E.fl l))] ∧ n0 = 1) hC ?_).mono ?_ ?_
  · rintro args0 h0 n0 out e ⟨l, r, c, e1, rfl, rfl, rfl⟩
    exact (hs l r out e e1).2 c
  · intro args h nx K hx
    unfold rfX at hx
    split at hx
    case h_2 => exact hx.elim
    rename_i v r
    obtain ⟨l, hl, hx⟩ := hx
    split at hx
    case h_2 => exact hx.elim
    rename_i p e1
    obtain ⟨b, out, e⟩ := p
    obtain ⟨rfl, hx⟩ := must_iff.1 hx
    obtain ⟨a1, a3⟩ := hs l r out e e1
    unfold LsAt at hl
    split at hl
    · rename_i n c
      obtain ⟨rfl, rfl, rfl⟩ := hl
      exact yOf_use E2 ⟨[], r, 0, e1, rfl, rfl, rfl⟩ (In_nil a1 true E.sz E.pos) hx
    · rename_i k o n c
      obtain ⟨rfl, wr, g, sz, cs, hk, hcs⟩ := hl
      exact yOf_use E2 ⟨l, r, c, e1, rfl, rfl, rfl⟩ (In_sl a1 hk hcs (flat_g E l) true E.sz E.pos) hx
    · exact hl.elim
  · intro args h nx K hx
    unfold rfX at hx
    split at hx
    case h_2 => exact hx.elim
    rename_i v r
    obtain ⟨l, hl, hx⟩ := hx
    split at hx
    case h_2 => exact hx.elim
    rename_i p e1
    obtain ⟨hb, hx⟩ := must_iff.1 hx
    obtain ⟨b, out, e⟩ := p
    cases out with
    | nil => exact ⟨_, _, _, hx, fun K' hk => ⟨l, hl, by rw [e1]; exact must_of hb hk⟩⟩
    | cons a t => exact ⟨_, _, _, hx, fun K' hk => ⟨l, hl, by rw [e1]; exact must_of hb hk⟩⟩
end
/-! ### two lists read -/
section
variable {α : Type} (E : El α)
theorem In_two {a0 b0 a b : Value} {o1 o2 : AObj} {h : Heap} {nx n1 c1 n2 c2 : Nat} (ha0 : a0 = .slice (some ⟨0, 0, none⟩) n1 c1) (hb0 : b0 = .slice (some ⟨0, 0, none⟩) n2 c2)
    (h1 : In [a0] [(0, o1)] 1 [a] h nx) (h2 : In [b0] [(0, o2)] 1 [b] h nx) (g1 : ∃ sz cs, o1 = .cells false true sz cs ∧ allG cs = true) (g2 : ∃ sz cs, o2 = .cells false true sz cs ∧ allG cs = true) :
    In [a0, .slice (some ⟨1, 0, none⟩) n2 c2] [(0, o1), (1, o2)] 2 [a, b] h nx := by
  subst ha0 hb0
  obtain ⟨s1, cs1, rfl, gc1⟩ := g1
  obtain ⟨s2, cs2, rfl, gc2⟩ := g2
  intro ι B w H hs
  obtain ⟨ι1, e1, k1, R1⟩ := h1 ι B w H (fun v hv => hs v (by cases hv with | head => exact .head _ | tail _ hm => cases hm))
  obtain ⟨ι2, e2, k2, R2⟩ := h2 ι B w H (fun v hv => hs v (by cases hv with | head => exact .tail _ (.head _) | tail _ hm => cases hm))
  simp only [List.map_cons, List.map_nil, List.cons.injEq, and_true] at e1 e2
  have q1 := R1.obj 0 _ rfl
  have q2 := R2.obj 0 _ rfl
  have kk1 := k1 _ (.head _)
  have kk2 := k2 _ (.head _)
  refine ⟨fun k => if k = 0 then ι1 0 else ι2 0, ?_, ?_, ⟨?_, ?_, ?_, Nat.le_refl _, ?_⟩⟩
  · simp only [List.map_cons, List.map_nil, e1, e2]
    rfl
  · intro v hv
    cases hv with
    | head => exact ⟨show (0 : Nat) < 2 by decide, kk1.2⟩
    | tail _ hm =>
      cases hm with
      | head => exact ⟨show (1 : Nat) < 2 by decide, kk2.2⟩
      | tail _ hm => cases hm
  · intro k o hk
    have key : ∀ {ι : Nat → Loc} {sz : Nat} {cs : List Value} {loc : Loc} (ι' : Nat → Loc), allG cs = true → ORel ι w.heap.size w (.cells false true sz cs) loc → ORel ι' w.heap.size w (.cells false true sz cs) loc := by
      intro ι sz cs loc ι' hg ho
      cases loc with
      | nil p => exact ho
      | lay b o e =>
        obtain ⟨x1, x2, x3⟩ := ho
        refine ⟨x1, x2, fun i v hv => ?_⟩
        rw [x3 i v hv, trS_g (allG_mem hg (List.mem_of_getElem? hv)), trS_g (allG_mem hg (List.mem_of_getElem? hv))]
    rw [look_cons] at hk
    split at hk
    · rename_i hb
      injection hk with hk
      subst hk
      rw [← beq_true hb]
      exact key _ gc1 q1
    · rw [look_cons] at hk
      split at hk
      · rename_i hb
        injection hk with hk
        subst hk
        rw [← beq_true hb]
        exact key _ gc2 q2
      · exact noLook hk
  · intro k k' o o' hk hk' hne hal b hb
    exfalso
    rw [look_cons] at hk
    split at hk
    · injection hk with hk; subst hk; cases hal
    · rw [look_cons] at hk
      split at hk
      · injection hk with hk; subst hk; cases hal
      · exact noLook hk
  · intro k o hk
    rw [look_cons] at hk
    split at hk
    · rename_i hb; rw [← beq_true hb]; decide
    · rw [look_cons] at hk
      split at hk
      · rename_i hb; rw [← beq_true hb]; decide
      · exact noLook hk
  · intro k o hk
    rw [look_cons] at hk
    split at hk
    · injection hk with hk; subst hk; exact fun v hv => scS_g (allG_mem gc1 hv)
    · rw [look_cons] at hk
      split at hk
      · injection hk with hk; subst hk; exact fun v hv => scS_g (allG_mem gc2 hv)
      · exact noLook hk
/-- a slice that is read as a list, as a call's own -/
theorem In_ls {h : Heap} {nx : Nat} {v : Value} {l : List α} (hl : LsAt E h v l) : ∃ c, In [.slice (some ⟨0, 0, none⟩) l.length c] [(0, .cells false true E.sz (flat E.fl l))] 1 [v] h nx := by
  unfold LsAt at hl
  split at hl
  · rename_i n c
    obtain ⟨rfl, rfl, rfl⟩ := hl
    exact ⟨0, In_nil rfl true E.sz E.pos⟩
  · rename_i k o n c
    obtain ⟨rfl, wr, g, sz, cs, hk, hcs⟩ := hl
    exact ⟨c, In_sl rfl hk hcs (flat_g E l) true E.sz E.pos⟩
  · exact hl.elim
def l2X (s : List α → List α → Option (Bool × Value)) : XF := fun args h nx K => match args with
  | [a, b] => ∃ l1 l2, LsAt E h a l1 ∧ LsAt E h b l2 ∧ (match s l1 l2 with | some p => must p.1 (K p.2 h nx) | none => False)
  | _ => False
theorem l2X_ok {P : Program} {C : VC} {f : Nat} {s : List α → List α → Option (Bool × Value)} (hC : CallsOK P C)
    (hs : ∀ l1 l2 v, s l1 l2 = some (true, v) → gT v = true ∧ ∀ c1 c2, C f [.slice (some ⟨0, 0, none⟩) l1.length c1, .slice (some ⟨1, 0, none⟩) l2.length c2] [(0, .cells false true E.sz (flat E.fl l1)), (1, .cells false true E.sz (flat E.fl l2))] 2 (fun u _ _ => u = v)) : XOK P f (l2X E s) := by
  refine (xOf_ok (S := fun args0 h0 n0 v1 h1 m => ∃ l1 l2 c1 c2, s l1 l2 = some (true, v1) ∧ args0 = [.slice (some ⟨0, 0, none⟩) l1.length c1, .slice (some ⟨1, 0, none⟩) l2.length c2] ∧ h0 = [(0, .cells false true E.sz (flat E.fl l1)), (1, .cells false true E.sz (flat E.fl l2))] ∧ n0 = 2 ∧ h1 = [] ∧ m = 0) hC ?_).mono ?_ ?_
  · rintro args0 h0 n0 v1 h1 m ⟨l1, l2, c1, c2, e1, rfl, rfl, rfl, rfl, rfl⟩
    obtain ⟨a2, a3⟩ := hs l1 l2 v1 e1
    exact ⟨rfl, _, a3 c1 c2, fun v h nx e => by rw [e]; exact Outc_g a2⟩
  · intro args h nx K hx
    unfold l2X at hx
    split at hx
    case h_2 => exact hx.elim
    rename_i a b
    obtain ⟨l1, l2, hl1, hl2, hx⟩ := hx
    split at hx
    case h_2 => exact hx.elim
    rename_i p e1
    obtain ⟨bb, u⟩ := p
    obtain ⟨rfl, hx⟩ := must_iff.1 hx
    obtain ⟨a2, a3⟩ := hs l1 l2 u e1
    obtain ⟨c1, i1⟩ := In_ls (nx := nx) E hl1
    obtain ⟨c2, i2⟩ := In_ls (nx := nx) E hl2
    refine ⟨_, _, 2, u, [], 0, ⟨l1, l2, c1, c2, e1, rfl, rfl, rfl, rfl, rfl⟩, In_two rfl rfl i1 i2 ⟨_, _, rfl, flat_g E l1⟩ ⟨_, _, rfl, flat_g E l2⟩, ?_⟩
    simp only [past, ownH, shH, app_nil, ren_g a2, Nat.add_zero]
    exact hx
  · intro args h nx K hx
    unfold l2X at hx
    split at hx
    case h_2 => exact hx.elim
    rename_i a b
    obtain ⟨l1, l2, hl1, hl2, hx⟩ := hx
    split at hx
    case h_2 => exact hx.elim
    rename_i p e1
    obtain ⟨hb, hx⟩ := must_iff.1 hx
    exact ⟨p.2, h, nx, hx, fun K' hk => ⟨l1, l2, hl1, hl2, by rw [e1]; exact must_of hb hk⟩⟩
end
end Go.Aw
end

/-
  Contracts of functions that write into a list of the caller's own. No condition.
-/
set_option linter.unusedSimpArgs false
set_option linter.unusedVariables false
noncomputable section
namespace Go.Aw
open Go.RowKit
section
variable {α : Type} (E : El α)
/-- What is asked; the list as it stands after the call. All else of the caller's is forgotten. -/
def wX (s : List α → Option (Bool × List α)) : XF := fun args h nx K => match args with
  | [.slice (some ⟨k, 0, none⟩) n c] => ∃ l, n = l.length ∧ look h k = some (.cells true false E.sz (flat E.fl l)) ∧ (match s l with | some p => must p.1 (K (.tuple #[]) [(k, .cells true false E.sz (flat E.fl p.2))] nx) | none => False)
  | _ => False
theorem ORel_g {ι ι' : Nat → Loc} {B : Nat} {w : World} {sz : Nat} {cs : List Value} {loc : Loc} (hg : allG cs = true) (h : ORel ι B w (.cells true false sz cs) loc) : ORel ι' B w (.cells true false sz cs) loc := by
  cases loc with
  | nil p => exact h
  | lay b o e =>
    obtain ⟨x1, x2, arr, t, x3, x4, x5⟩ := h
    refine ⟨x1, x2, arr, t, x3, x4, fun i v hv => ?_⟩
    rw [x5 i v hv, trS_g (allG_mem hg (List.mem_of_getElem? hv)), trS_g (allG_mem hg (List.mem_of_getElem? hv))]
theorem RelH_one {ι : Nat → Loc} {B n k : Nat} {w : World} {sz : Nat} {cs : List Value} (hg : allG cs = true) (ho : ORel ι B w (.cells true false sz cs) (ι k)) (hk : k < n) (hB : B ≤ w.heap.size) : RelH ι B [(k, .cells true false sz cs)] n w := by
  have key : ∀ j o, look [(k, AObj.cells true false sz cs)] j = some o → j = k ∧ o = .cells true false sz cs := by
    intro j o hj
    rw [look_cons] at hj
    split at hj
    · rename_i hb
      injection hj with hj
      exact ⟨(beq_true hb).symm, hj.symm⟩
    · exact noLook hj
  refine ⟨fun j o hj => ?_, fun j j' o o' hj hj' hne => ?_, fun j o hj => ?_, hB, fun j o hj => ?_⟩
  · obtain ⟨rfl, rfl⟩ := key j o hj
    exact ho
  · exact absurd ((key j o hj).1.trans (key j' o' hj').1.symm) hne
  · rw [(key j o hj).1]; exact hk
  · obtain ⟨rfl, rfl⟩ := key j o hj
    exact fun v hv => scS_g (allG_mem hg hv)
theorem wX_ok {P : Program} {C : VC} {f : Nat} {s : List α → Option (Bool × List α)} (hC : CallsOK P C)
    (hs : ∀ l l', s l = some (true, l') → ∀ c, C f [.slice (some ⟨0, 0, none⟩) l.length c] [(0, .cells true false E.sz (flat E.fl l))] 1 (fun v h _ => v = .tuple #[] ∧ look h 0 = some (.cells true false E.sz (flat E.fl l')))) : XOK P f (wX E s) := by
  refine ⟨fun args h nx K hx ι B w H hsc => ?_, fun args h nx K hx => ?_⟩
  · unfold wX at hx
    split at hx
    case h_2 => exact hx.elim
    rename_i k n c
    obtain ⟨l, rfl, hk, hx⟩ := hx
    split at hx
    case h_2 => exact hx.elim
    rename_i p e1
    obtain ⟨b, l'⟩ := p
    obtain ⟨rfl, hx⟩ := must_iff.1 hx
    have hsl := hsc _ (.head _)
    have ho := H.obj k _ hk
    have hlow := H.low k _ hk
    have hrun := hC f _ _ 1 _ (hs l l' e1 c) (fun _ => ι k) B w (RelH_one (flat_g E l) (ORel_g (flat_g E l) ho) (by decide) H.size) (fun v hv => by
      cases hv with
      | head => exact ⟨show (0 : Nat) < 1 by decide, hsl.2⟩
      | tail _ hm => cases hm)
    refine ⟨hrun.1, ?_⟩
    have he : ([.slice (some ⟨k, 0, none⟩) l.length c] : List Value).map (tr ι) = ([.slice (some ⟨0, 0, none⟩) l.length c] : List Value).map (tr (fun _ => ι k)) := rfl
    rw [he]
    refine CallsIn.mono hrun.2 fun e w' hr => ?_
    cases e with
    | returned u =>
      obtain ⟨v, h', nx', ι', ⟨rfl, q1⟩, q2, q3, q4, q5, q6, rfl⟩ := hr
      have ho' := q3.obj 0 _ q1
      rw [q5 0 (by decide)] at ho'
      refine ⟨.tuple #[], _, nx, ι, hx, (fun v hv => (by cases hv)), RelH_one (flat_g E l') (ORel_g (flat_g E l') ho') hlow q3.size, q4, fun _ _ => rfl, Nat.le_refl _, by simp [tr]⟩
    | _ => exact hr.elim
  · unfold wX at hx
    split at hx
    case h_2 => exact hx.elim
    rename_i k n c
    obtain ⟨l, hn, hk, hx⟩ := hx
    split at hx
    case h_2 => exact hx.elim
    rename_i p e1
    obtain ⟨hb, hx⟩ := must_iff.1 hx
    exact ⟨_, _, _, hx, fun K' hk' => ⟨l, hn, hk, by rw [e1]; exact must_of hb hk'⟩⟩
end
end Go.Aw
end

/-
  Contracts of functions that write into a list of the caller's own; all else of the caller's is kept. No condition.
-/
set_option linter.unusedSimpArgs false
set_option linter.unusedVariables false
noncomputable section
namespace Go.Aw
open Go.RowKit
/-- The own object's name is 0; the others' are one further on. -/
def pre0 (k : Nat) (ι : Nat → Loc) : Nat → Loc := fun j => if j = 0 then ι k else ι (j - 1)
theorem pre0_0 (k : Nat) (ι : Nat → Loc) : pre0 k ι 0 = ι k := if_pos rfl
theorem pre0_s (k : Nat) (ι : Nat → Loc) (j : Nat) : pre0 k ι (1 + j) = ι j := by
  unfold pre0
  rw [if_neg (by omega), Nat.add_sub_cancel_left]
def FrOK (F : Heap) (nx : Nat) : Prop := 1 ≤ nx ∧ ∀ j o, look F j = some o → 0 < j ∧ j < nx ∧ ObjRen id nx o o
theorem Into_fr {b n0 nx : Nat} {I : KS} {e0 e : List (Nat × Value)} {F : Heap} {o0 o : AObj} (hF : FrOK F n0) (hI : I e0 ((0, o0) :: F) n0) (he : ∀ p ∈ e0, look e p.1 = some (ren id p.2) ∧ nmT n0 p.2) (ho : ObjRen id n0 o0 o) (hb : b ≤ n0) :
    Into b I e ((0, o) :: F) nx := by
  refine ⟨e0, (0, o0) :: F, n0, id, hI, fun t v hv => he (t, v) (look_mem hv), fun k q hk => ?_, fun k k' q q' _ _ e => e, fun k _ => rfl, hb⟩
  rw [look_cons] at hk
  split at hk
  · rename_i hb1
    injection hk with hk
    subst hk
    have := beq_true hb1
    subst this
    exact ⟨hF.1, o, rfl, ho⟩
  · obtain ⟨h1, h2, h3⟩ := hF.2 k q hk
    refine ⟨h2, q, ?_, h3⟩
    show look ((0, o) :: F) k = some q
    rw [look_cons]
    rename_i hb1
    rw [hb1]
    exact hk
theorem look_shH' {n : Nat} : ∀ (h : Heap) {j : Nat} {o : AObj}, look h j = some o → look (shH n h) (n + j) = some (shO n o)
  | [], j, o, hl => (by cases hl)
  | (i, q) :: r, j, o, hl => by
    rw [look_cons] at hl
    simp only [shH]
    rw [look_cons]
    split at hl
    · rename_i hb
      injection hl with hl
      subst hl
      have := beq_true hb
      subst this
      rw [Nat.beq_refl]
    · rename_i hb
      have hne : Nat.beq (n + i) (n + j) = false := by
        cases hb' : Nat.beq (n + i) (n + j) with
        | false => rfl
        | true =>
          have := beq_true hb'
          have : i = j := by omega
          subst this
          rw [Nat.beq_refl] at hb
          cases hb
      rw [hne]
      exact look_shH' r hl
theorem scP_at {ι : Nat → Loc} {σ : Nat → Nat} {n : Nat} {v : Value} (h : scP ι n v) : scP (at0 σ) n v := by
  cases v with
  | pointer a => cases a with
    | none => trivial
    | some a => exact ⟨h.1, rfl⟩
  | slice a l c => cases a with
    | none => trivial
    | some a => exact ⟨h.1, fun hf => by cases hf⟩
  | map a => cases a with
    | none => trivial
    | some a => exact ⟨h.1, rfl⟩
  | agg c => exact h.elim
  | tuple c => exact h.elim
  | _ => trivial
theorem scS_at {ι : Nat → Loc} {σ : Nat → Nat} {n : Nat} {v : Value} (h : scS ι n v) : scS (at0 σ) n v := by
  cases v with
  | func f a c =>
    refine ⟨?_, fun x hx => scP_at (h.2 x hx)⟩
    have h1 := h.1
    cases f with
    | yield l => exact ⟨h1.1, rfl⟩
    | _ => trivial
  | pointer a => have := scP_at (ι := ι) (σ := σ) (n := n) (v := .pointer a); cases a <;> exact this h
  | slice a l c => have := scP_at (ι := ι) (σ := σ) (n := n) (v := .slice a l c); cases a <;> exact this h
  | map a => have := scP_at (ι := ι) (σ := σ) (n := n) (v := .map a); cases a <;> exact this h
  | agg c => exact h.elim
  | tuple c => exact h.elim
  | _ => trivial
section
variable {ι ι0 : Nat → Loc} {B n : Nat} {w : World}
theorem sh_sc {v : Value} (hs : scS ι n v) (hι : ∀ j, j < n → ι0 (1 + j) = ι j) : scS ι0 (1 + n) (ren1 (fun k => 1 + k) v) :=
  scS_into (m := n) (scS_mono (ι := ι) (ι' := fun k => ι0 (1 + k)) (Nat.le_refl _) hι hs) (fun k hk => by omega)
theorem sh_tr {v : Value} (hs : scS ι n v) (hι : ∀ j, j < n → ι0 (1 + j) = ι j) : trS ι0 (ren1 (fun k => 1 + k) v) = trS ι v := by
  unfold ren1
  rw [trS_ren (n := 1 + n) (sh_sc hs hι)]
  exact trS_eq (ι := ι) (ι' := fun k => ι0 (1 + k)) hι hs
theorem sh_nm {v : Value} (hs : scS ι n v) : nmS (1 + n) (ren1 (fun k => 1 + k) v) :=
  scS_into (m := n) (scS_at hs) (fun k hk => by omega)
theorem sh_id {v : Value} (hs : scS ι n v) : ren1 id (ren1 (fun k => 1 + k) v) = ren1 (fun k => 1 + k) v := by
  unfold ren1
  rw [trS_ren (n := 1 + n) (sh_nm hs)]
  rfl
theorem ORel_sh {wr g : Bool} {sz : Nat} {cs : List Value} {l : Loc} (h : ORel ι B w (.cells wr g sz cs) l) (hs : ∀ v ∈ cs, scS ι n v) (hι : ∀ j, j < n → ι0 (1 + j) = ι j) : ORel ι0 B w (shO 1 (.cells wr g sz cs)) l := by
  have hg : ∀ {q : Prop}, (g = true → allG cs = true) → g = true → allG (cs.map (ren1 fun k => 1 + k)) = true := fun hq e => allG_of fun v hv => by
    obtain ⟨u, hu, rfl⟩ := List.mem_map.1 hv
    exact gS_sh (allG_mem (hq e) hu)
  have key : ∀ {Φ : Nat → Value → Prop}, (∀ (i : Nat) v, cs[i]? = some v → Φ i (trS ι v)) → ∀ (i : Nat) v, (cs.map (ren1 fun k => 1 + k))[i]? = some v → Φ i (trS ι0 v) := fun hΦ i v hv => by
    rw [List.getElem?_map] at hv
    obtain ⟨u, hu, rfl⟩ := Option.map_eq_some_iff.1 hv
    rw [sh_tr (hs u (List.mem_of_getElem? hu)) hι]
    exact hΦ i u hu
  cases l with
  | nil p =>
    have h1 : cs = [] ∧ (sz = 0 ∨ wr = true → p.isSome = true) := by cases wr <;> exact h
    obtain ⟨rfl, hz⟩ := h1
    cases wr <;> exact ⟨rfl, hz⟩
  | lay b o e =>
    cases wr with
    | true =>
      obtain ⟨x1, x2, arr, t, x3, x4, x5⟩ := h
      exact ⟨x1, hg (q := True) x2, arr, t, x3, by rw [List.length_map]; exact x4, key (Φ := fun i v => arr[o + i]? = some v) x5⟩
    | false =>
      obtain ⟨x1, x2, x3⟩ := h
      exact ⟨x1, hg (q := True) x2, key (Φ := fun i v => w.cell? ⟨b, o + i, none⟩ = some v) x3⟩
theorem ORel_unsh {wr g : Bool} {sz : Nat} {cs : List Value} {l : Loc} (h : ORel ι0 B w (shO 1 (.cells wr g sz cs)) l) (hs : ∀ v ∈ cs, scS ι n v) (hι : ∀ j, j < n → ι0 (1 + j) = ι j) (hg0 : g = true → allG cs = true) : ORel ι B w (.cells wr g sz cs) l := by
  have key : ∀ {Φ : Nat → Value → Prop}, (∀ (i : Nat) v, (cs.map (ren1 fun k => 1 + k))[i]? = some v → Φ i (trS ι0 v)) → ∀ (i : Nat) v, cs[i]? = some v → Φ i (trS ι v) := fun hΦ i v hv => by
    rw [← sh_tr (hs v (List.mem_of_getElem? hv)) hι]
    exact hΦ i _ (by rw [List.getElem?_map, hv]; rfl)
  cases l with
  | nil p =>
    have h1 : cs.map (ren1 fun k => 1 + k) = [] ∧ (sz = 0 ∨ wr = true → p.isSome = true) := by cases wr <;> exact h
    have h2 : cs = [] := by simpa using h1.1
    cases wr <;> exact ⟨h2, h1.2⟩
  | lay b o e =>
    cases wr with
    | true =>
      obtain ⟨x1, x2, arr, t, x3, x4, x5⟩ := h
      rw [List.length_map] at x4
      exact ⟨x1, hg0, arr, t, x3, x4, key (Φ := fun i v => arr[o + i]? = some v) x5⟩
    | false =>
      obtain ⟨x1, x2, x3⟩ := h
      exact ⟨x1, hg0, key (Φ := fun i v => w.cell? ⟨b, o + i, none⟩ = some v) x3⟩
end
theorem shO_alone (n : Nat) (o : AObj) : (shO n o).alone = o.alone := by cases o <;> rfl
/-- What is handed back: nothing, or so much of the list. -/
def rv (k c : Nat) : Option Nat → Value
  | none => .tuple #[]
  | some m => .slice (some ⟨k, 0, none⟩) m c
section
variable {α : Type} (E : El α)
def frX (s : List α → List Value → Nat → Option (Bool × Option Nat × List Value)) : XF := fun args h nx K => match args with
  | .slice (some ⟨k, 0, none⟩) n c :: r => ∃ l, n = l.length ∧ look h k = some (.cells true false E.sz (flat E.fl l)) ∧ cellsH h = true ∧ (match s l r c with | some p => must p.1 (K (rv k c p.2.1) (upd h k (.cells true false E.sz p.2.2)) nx) | none => False)
  | _ => False
theorem frX_ok {P : Program} {C : VC} {f : Nat} {s : List α → List Value → Nat → Option (Bool × Option Nat × List Value)} (hC : CallsOK P C)
    (hs : ∀ l r c m cs', s l r c = some (true, m, cs') → allGA r = true ∧ allG cs' = true ∧ (∀ q, m = some q → q ≤ l.length) ∧
      ∀ F nx, FrOK F nx → C f (.slice (some ⟨0, 0, none⟩) l.length c :: r) ((0, .cells true false E.sz (flat E.fl l)) :: F) nx (fun v h _ => v = rv 0 c m ∧ h = (0, .cells true false E.sz cs') :: F)) : XOK P f (frX E s) := by
  refine ⟨fun args h nx K hx ι B w H hsc => ?_, fun args h nx K hx => ?_⟩
  · unfold frX at hx
    split at hx
    case h_2 => exact hx.elim
    rename_i k n c r
    obtain ⟨l, rfl, hk, hcH, hx⟩ := hx
    split at hx
    case h_2 => exact hx.elim
    rename_i p e1
    obtain ⟨b, m, cs'⟩ := p
    obtain ⟨rfl, hx⟩ := must_iff.1 hx
    obtain ⟨a1, a2, a3, a4⟩ := hs l r c m cs' e1
    have hsl : k < nx ∧ ((ι k).isAt = false → l.length = 0 ∧ c = 0) := hsc _ (.head _)
    have hcells : ∀ j o, look h j = some o → ∃ wr g sz cs, o = .cells wr g sz cs := fun j o hj => cellsH_look hcH hj
    have hι0 : ∀ j, j < nx → pre0 k ι (1 + j) = ι j := fun j _ => pre0_s k ι j
    have hF : ∀ j q, look (shH 1 (rem h k)) j = some q → ∃ i o, j = 1 + i ∧ i ≠ k ∧ look h i = some o ∧ q = shO 1 o := by
      intro j q hq
      obtain ⟨i, o, e2, e3, e4⟩ := look_shH _ hq
      rw [look_rem] at e3
      split at e3
      · cases e3
      · rename_i hne
        exact ⟨i, o, e2, hne, e3, e4⟩
    have hFr : FrOK (shH 1 (rem h k)) (1 + nx) := by
      refine ⟨by omega, fun j q hq => ?_⟩
      obtain ⟨i, o, rfl, hne, hi, rfl⟩ := hF j q hq
      have hlow := H.low i o hi
      obtain ⟨wr, g, sz, cs, rfl⟩ := hcells i o hi
      refine ⟨by omega, by omega, rfl, rfl, rfl, ?_, fun v hv => ?_⟩
      · rw [List.map_map]
        exact List.map_congr_left fun v hv => (sh_id (H.sc i _ hi v hv)).symm
      · obtain ⟨u, hu, rfl⟩ := List.mem_map.1 hv
        exact sh_nm (H.sc i _ hi u hu)
    have H0 : RelH (pre0 k ι) B ((0, .cells true false E.sz (flat E.fl l)) :: shH 1 (rem h k)) (1 + nx) w := by
      refine ⟨fun j q hq => ?_, fun j j' q q' hq hq' hne ha b hb => ?_, fun j q hq => ?_, H.size, fun j q hq => ?_⟩
      · rw [look_cons] at hq
        split at hq
        · rename_i hb
          injection hq with hq
          subst hq
          have := beq_true hb
          subst this
          rw [pre0_0]
          exact ORel_g (flat_g E l) (H.obj k _ hk)
        · obtain ⟨i, o, rfl, hne, hi, rfl⟩ := hF j q hq
          obtain ⟨wr, g, sz, cs, rfl⟩ := hcells i o hi
          rw [pre0_s]
          exact ORel_sh (H.obj i _ hi) (H.sc i _ hi) hι0
      · rw [look_cons] at hq hq'
        split at hq
        · rename_i hb1
          have := beq_true hb1
          subst this
          split at hq'
          · rename_i hb2; exact absurd (beq_true hb2) hne
          · obtain ⟨i, o, rfl, hni, hi, rfl⟩ := hF j' q' hq'
            rw [pre0_0] at hb
            rw [pre0_s]
            exact H.sep k i _ _ hk hi (fun e => hni e.symm) rfl b hb
        · obtain ⟨i, o, rfl, hni, hi, rfl⟩ := hF j q hq
          rw [shO_alone] at ha
          rw [pre0_s] at hb
          split at hq'
          · rename_i hb2
            have := beq_true hb2
            subst this
            rw [pre0_0]
            exact H.sep i k _ _ hi hk hni ha b hb
          · obtain ⟨i', o', rfl, hni', hi', rfl⟩ := hF j' q' hq'
            rw [pre0_s]
            exact H.sep i i' _ _ hi hi' (fun e => hne (by rw [e])) ha b hb
      · rw [look_cons] at hq
        split at hq
        · rename_i hb; rw [← beq_true hb]; omega
        · exact (hFr.2 j q hq).2.1
      · rw [look_cons] at hq
        split at hq
        · injection hq with hq
          subst hq
          exact fun v hv => scS_g (allG_mem (flat_g E l) hv)
        · obtain ⟨i, o, rfl, hni, hi, rfl⟩ := hF j q hq
          obtain ⟨wr, g, sz, cs, rfl⟩ := hcells i o hi
          intro v hv
          obtain ⟨u, hu, rfl⟩ := List.mem_map.1 hv
          exact sh_sc (H.sc i _ hi u hu) hι0
    have hrun := hC f _ _ (1 + nx) _ (a4 _ _ hFr) (pre0 k ι) B w H0 (fun v hv => by
      cases hv with
      | head => exact ⟨show 0 < 1 + nx by omega, fun hf => hsl.2 (by rw [pre0_0] at hf; exact hf)⟩
      | tail _ hm => exact scT_g (allGA_mem a1 hm))
    refine ⟨hrun.1, ?_⟩
    have he : ((.slice (some ⟨k, 0, none⟩) l.length c :: r) : List Value).map (tr ι) = ((.slice (some ⟨0, 0, none⟩) l.length c :: r) : List Value).map (tr (pre0 k ι)) := by
      rw [List.map_cons, List.map_cons]
      congr 1
      exact List.map_congr_left fun v hv => by rw [tr_g (allGA_mem a1 hv), tr_g (allGA_mem a1 hv)]
    rw [he]
    refine CallsIn.mono hrun.2 fun e w' hret => ?_
    cases e with
    | returned u =>
      obtain ⟨v, h', nx', ι1, ⟨rfl, rfl⟩, q2, q3, q4, q5, q6, rfl⟩ := hret
      have hι1 : ∀ j, j < nx → ι1 (1 + j) = ι j := fun j hj => (q5 (1 + j) (by omega)).trans (pre0_s k ι j)
      have hι10 : ι1 0 = ι k := (q5 0 (by omega)).trans (pre0_0 k ι)
      have hback : ∀ j o, look (upd h k (.cells true false E.sz cs')) j = some o → (j = k ∧ o = .cells true false E.sz cs') ∨ (j ≠ k ∧ look h j = some o) := by
        intro j o hj
        rw [look_upd] at hj
        split at hj
        · rename_i e; injection hj with hj; exact .inl ⟨e, hj.symm⟩
        · rename_i e; exact .inr ⟨e, hj⟩
      refine ⟨rv k c m, _, nx, ι, hx, ?_, ⟨fun j o hj => ?_, fun j j' o o' hj hj' hne ha b hb => ?_, fun j o hj => ?_, q3.size, fun j o hj => ?_⟩, q4, fun _ _ => rfl, Nat.le_refl _, ?_⟩
      · cases m with
        | none => exact fun v hv => (by cases hv)
        | some q =>
          refine ⟨hsl.1, fun hf => ?_⟩
          have := hsl.2 hf
          have := a3 q rfl
          omega
      · rcases hback j o hj with ⟨rfl, rfl⟩ | ⟨hne, hj⟩
        · have := q3.obj 0 (.cells true false E.sz cs') rfl
          rw [hι10] at this
          exact ORel_g a2 this
        · obtain ⟨wr, g, sz, cs, rfl⟩ := hcells j o hj
          have hlow := H.low j _ hj
          have h1 : look ((0, .cells true false E.sz cs') :: shH 1 (rem h k)) (1 + j) = some (shO 1 (.cells wr g sz cs)) := by
            rw [look_cons, show Nat.beq 0 (1 + j) = false by cases hb : Nat.beq 0 (1 + j) with | false => rfl | true => have := beq_true hb; omega]
            exact look_shH' _ (by rw [look_rem, if_neg hne]; exact hj)
          have h2 := q3.obj _ _ h1
          rw [hι1 j hlow] at h2
          refine ORel_unsh h2 (H.sc j _ hj) hι1 ?_
          intro hgt
          have h3 := H.obj j _ hj
          cases hl : ι j with
          | nil p =>
            rw [hl] at h3
            have h4 : cs = [] ∧ (sz = 0 ∨ wr = true → p.isSome = true) := by cases wr <;> exact h3
            rw [h4.1]; rfl
          | lay b off ex =>
            rw [hl] at h3
            cases wr with
            | true => exact h3.2.1 hgt
            | false => exact h3.2.1 hgt
      · rcases hback j o hj with ⟨e3, e4⟩ | ⟨hnk, hj2⟩
        · rcases hback j' o' hj' with ⟨e5, e6⟩ | ⟨hnk', hj3⟩
          · exact absurd (e3.trans e5.symm) hne
          · exact H.sep j j' _ _ (by rw [e3]; exact hk) hj3 hne rfl b hb
        · rcases hback j' o' hj' with ⟨e5, e6⟩ | ⟨hnk', hj3⟩
          · exact H.sep j j' _ _ hj2 (by rw [e5]; exact hk) hne ha b hb
          · exact H.sep j j' _ _ hj2 hj3 hne ha b hb
      · rcases hback j o hj with ⟨rfl, rfl⟩ | ⟨hnk, hj⟩
        · exact hsl.1
        · exact H.low j o hj
      · rcases hback j o hj with ⟨rfl, rfl⟩ | ⟨hnk, hj⟩
        · exact fun v hv => scS_g (allG_mem a2 hv)
        · exact H.sc j o hj
      · cases m with
        | none => simp [rv, tr]
        | some q => simp only [rv, tr, trA, trS, trP, hι10]
    | _ => exact hret.elim
  · unfold frX at hx
    split at hx
    case h_2 => exact hx.elim
    rename_i k n c r
    obtain ⟨l, hn, hk, hcH, hx⟩ := hx
    split at hx
    case h_2 => exact hx.elim
    rename_i p e1
    obtain ⟨hb, hx⟩ := must_iff.1 hx
    exact ⟨_, _, _, hx, fun K' hk' => ⟨l, hn, hk, hcH, by rw [e1]; exact must_of hb hk'⟩⟩
end
end Go.Aw
end
