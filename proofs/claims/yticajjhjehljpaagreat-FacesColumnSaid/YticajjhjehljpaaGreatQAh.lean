/-
  Parts of a proof. No condition.
-/
import Derived.Test.YticajjhjehljpaaGreatQAf
import Derived.Test.YticajjhjehljpaaGreatQAg
import Derived.WalkKit
set_option linter.unusedSimpArgs false
set_option linter.unusedVariables false
noncomputable section
namespace Go.Aw
def ltF:Int→Int→Bool
 |.ofNat m,.ofNat n=>Nat.blt m n
 |.ofNat _,.negSucc _=>false
 |.negSucc _,.ofNat _=>true
 |.negSucc m,.negSucc n=>Nat.blt n m
def leF:Int→Int→Bool
 |.ofNat m,.ofNat n=>Nat.ble m n
 |.ofNat _,.negSucc _=>false
 |.negSucc _,.ofNat _=>true
 |.negSucc m,.negSucc n=>Nat.ble n m
def eqF:Int→Int→Bool
 |.ofNat m,.ofNat n=>Nat.beq m n
 |.ofNat _,.negSucc _=>false
 |.negSucc _,.ofNat _=>false
 |.negSucc m,.negSucc n=>Nat.beq m n
def UU:IntKind→Int→Bool
 |.i64,.ofNat m=>Nat.ble m 9223372036854775807
 |.i64,.negSucc m=>Nat.ble m 9223372036854775807
 |k,n=>aH k n
theorem aE0 (m n:Nat):Nat.blt m n=decide (m<n):=by
 cases h:Nat.blt m n with
 |true=>exact (decide_eq_true (nX h)).symm
 |false =>
  refine (decide_eq_false fun hl=>?_).symm;have:Nat.blt m n=true:=Nat.ble_eq_true_of_le hl;rw [h] at this;cases this
theorem YK (m n:Nat):Nat.ble m n=decide (m≤n):=by
 cases h:Nat.ble m n with
 |true=>exact (decide_eq_true (Nat.le_of_ble_eq_true h)).symm
 |false =>
  refine (decide_eq_false fun hl=>?_).symm;have:Nat.ble m n=true:=Nat.ble_eq_true_of_le hl;rw [h] at this;cases this
theorem aE9 (m n:Nat):Nat.beq m n=decide (m=n):=by
 cases h:Nat.beq m n with
 |true=>exact (decide_eq_true (beq_true h)).symm
 |false=>exact (decide_eq_false (beq_false h)).symm
theorem aIt (a b:Int):ltF a b=decide (a<b):=by
 rw [Bool.eq_iff_iff];cases a <;> cases b <;> simp only [ltF,aE0,decide_eq_true_eq,Int.ofNat_eq_natCast,Int.negSucc_eq,Bool.false_eq_true,false_iff,true_iff] <;> omega
theorem aIc (a b:Int):leF a b=decide (a≤b):=by
 rw [Bool.eq_iff_iff];cases a <;> cases b <;> simp only [leF,YK,decide_eq_true_eq,Int.ofNat_eq_natCast,Int.negSucc_eq,Bool.false_eq_true,false_iff,true_iff] <;> omega
theorem aIQ (a b:Int):eqF a b=decide (a=b):=by
 rw [Bool.eq_iff_iff];cases a <;> cases b <;> simp only [eqF,aE9,decide_eq_true_eq,Int.ofNat_eq_natCast,Int.negSucc_eq,Bool.false_eq_true,false_iff,true_iff] <;> omega
theorem aCl (k:IntKind)(n:Int):UU k n=aH k n:=by
 cases k <;> try rfl
 rw [Bool.eq_iff_iff];cases n <;> simp only [UU,aH,YK,Bool.and_eq_true,decide_eq_true_eq,Int.ofNat_eq_natCast,Int.negSucc_eq] <;> omega
def VU:Ar:={ aF with
 add:=Int.add,sub:=Int.sub,mul:=Int.mul
 lt:=ltF,le:=leF,eq:=eqF,fits:=UU
 ix:=fun o i s=>Nat.add o (Nat.mul i.toNat s)
 num:=Int.ofNat,eP:=Int.toNat,subN:=Nat.sub }
theorem aDp:VU=aF:=by
 unfold VU
 rw [show ltF=aF.lt from funext fun a=>funext fun b=>aIt a b,show leF=aF.le from funext fun a=>funext fun b=>aIc a b,
  show eqF=aF.eq from funext fun a=>funext fun b=>aIQ a b,show UU=aF.fits from funext fun a=>funext fun b=>aCl a b]
 rfl
def aNC:DC:={ A:=VU,T:=tyT,FT:=look ftL,PL:=plF,PR:=fun _=>false,X:=fun _=>none,M:=1000 }
theorem YN:∀ {l:List (Nat × Func)} {f:Nat} {fn:Func},N4 l=true→(f,fn)∈l→fnB f fn=true
 |[],_,_,_,h=>by cases h
 |(g,gn)::r,f,fn,hb,h=>by
  simp only [N4,Bool.and_eq_true] at hb;cases h with
  |head=>exact hb.1
  |tail _ hm=>exact YN hb.2 hm
theorem RM (f : Nat)(fn : Func)(h : look ftL f = some fn) : Go.Proofs.Tryz.prog.funcs[f]? = some fn ∧ (fn.name == "runtime.NumGoroutine") = false ∧ ∀ b, fn.body = some b → cR (plF f) b = true := by
 have hm:=aW h;have hb:=YN aIM hm;unfold fnB at hb;simp only [Bool.and_eq_true,Bool.not_eq_true'] at hb;have h1:Go.Proofs.Tryz.prog.funcs[(f,fn).1]? = some (f,fn).2:=aJH (f,fn) hm;refine⟨h1,hb.1,?_⟩;have h2:=hb.2;generalize plF f=Φ at h2 ⊢;intro b he;simp only [he] at h2;exact h2
theorem GH (X:Nat→Option (List Value→Heap→Nat→KE→Prop))(hX:∀ f x,X f=some x→dJ Go.Proofs.Tryz.prog f x)(PR:Nat→Bool)(M:Nat):pA Go.Proofs.Tryz.prog { A:=VU,T:=tyT,FT:=look ftL,PL:=plF,PR:=PR,X:=X,M:=M } where
 ar:=aDp
 tab:=NZ aDh
 mixed:=by decide +kernel
 funcs:=RM
 xs:=hX
def iv (n:Int):Value:=.int .i64 n
def pt (x y:Int):Value:=.agg #[iv x,iv y]
end Go.Aw
end

noncomputable section
namespace Go.Aw
open Go.RowKit
theorem bm {b:Bool}{X Y:Prop}(h1:b=true→X)(h2:b=false→Y):(match (generalizing:=false) b with|true=>X|false=>Y):=by
 cases b
 ·exact h2 rfl
 exact h1 rfl
theorem JA {x:Option (List Value)}{v:List Value}{G:List Value→Prop}(h:x=some v)(k:G v):(match (generalizing:=false) x with|some v=>G v|none=>False):=by
 subst h;exact k
theorem kW {x:Option Value}{v:Value}{G:Value→Prop}(h:x=some v)(k:G v):(match (generalizing:=false) x with|some v=>G v|none=>False):=by
 subst h;exact k
abbrev XF:=List Value→Heap→Nat→KE→Prop
def CX (X:Nat→Option XF):VC:=fun f args h nx K=>match X f with|some x=>x args h nx K|none=>False
def noY:VY:=fun _ _ _ _ _=>False
theorem OI {P:Program}{X:Nat→Option XF}(hX:∀ f x,X f=some x→dJ P f x):bC P (CX X):=by
 intro f args h nx K hl ι B w H hs;unfold CX at hl;split at hl
 ·rename_i x hx;exact (hX f x hx).1 args h nx K hl ι B w H hs
 exact hl.elim
theorem A3 {P:Program}{X:Nat→Option XF}(hX:∀ f x,X f=some x→dJ P f x):dS (CX X):=by
 intro f args h nx K hl;unfold CX at hl;split at hl
 ·rename_i x hx;obtain⟨v,h',nx',k1,k2⟩:=(hX f x hx).2 args h nx K hl;exact⟨v,h',nx',k1,fun K' hk=>by unfold CX;rw [hx];exact k2 K' hk⟩
 exact hl.elim
theorem MA {P:Program}:eO P noY:=fun _ _ _ _ _ hl=>hl.elim
theorem uR:dS noY:=fun _ _ _ _ _ hl=>hl.elim
theorem dJ.mono {P:Program}{f:Nat}{x x':XF}(h:dJ P f x)(hm:∀ args h nx K,x' args h nx K→x args h nx K)(hd:∀ args h nx,fE (x' args h nx)):dJ P f x' :=
 ⟨fun args hh nx K hx=>h.1 args hh nx K (hm _ _ _ _ hx),hd⟩
def gX (s:List Value→Option (Bool × Value)):XF:=fun args h nx K=>match s args with|some p=>dT p.1 (K p.2 h nx)|none=>False
theorem o5 (h:Heap):app h []=h:=by
 induction h with
 |nil=>rfl
 |cons x r ih=>simp only [app,ih]
theorem vW {P:Program}{C:VC}{f:Nat}{s:List Value→Option (Bool × Value)}(hC:bC P C)
  (hs:∀ args v,s args=some (true,v)→fN args=true∧gT v=true∧C f args [] 0 (fun u _ _=>u=v)):dJ P f (gX s):=by
 refine (jD (S:=fun args0 h0 n0 v1 h1 m=>s args0=some (true,v1)∧h0=[]∧n0=0∧h1=[]∧m=0) hC ?_).mono ?_ ?_
 ·rintro args0 h0 n0 v1 h1 m ⟨e1,rfl,rfl,rfl,rfl⟩;obtain⟨a1,a2,a3⟩:=hs args0 v1 e1;refine⟨rfl,?_⟩;exact⟨_,a3,fun v h nx e=>by rw [e];exact lJ a2⟩
 ·intro args h nx K hx;unfold gX at hx;split at hx
  ·rename_i p e1;obtain⟨b,v⟩:=p;obtain⟨rfl,hx⟩:=aD.1 hx;obtain⟨a1,a2,a3⟩:=hs args v e1;refine⟨args,[],0,v,[],0,⟨e1,rfl,rfl,rfl,rfl⟩,aMQ fun u hu=>cA a1 hu,?_⟩;simp only [rZ,zL,oP,o5,iQ a2,Nat.add_zero];exact hx
  exact hx.elim
 intro args h nx K hx;unfold gX at hx;split at hx
 ·rename_i p e1;obtain⟨hb,hx⟩:=aD.1 hx;exact⟨p.2,h,nx,hx,fun K' hk=>by unfold gX;rw [e1];exact aJ hb hk⟩
 exact hx.elim
theorem aG {ρ:Nat→Nat}{n sz:Nat}{wr g:Bool}{cs:List Value}(hg:dL cs=true):bT ρ n (.cells wr g sz cs) (.cells wr g sz cs) :=
 ⟨rfl,rfl,rfl,(a8 hg).symm,fun v hv=>bY (aT hg hv)⟩
theorem cZ {b n0 nx:Nat}{I:KS}{e0 e:List (Nat × Value)}{h0 h:Heap}(hI:I e0 h0 n0)(he:∀ p∈e0,look e p.1=some (fL id p.2)∧x6 n0 p.2)
  (hh:∀ p∈h0,p.1<n0∧∃ o',look h (id p.1)=some o'∧bT id n0 p.2 o') (hb:b≤n0):r5 b I e h nx :=
 ⟨e0,h0,n0,id,hI,fun t v hv=>he (t,v) (aW hv),fun k o hk=>hh (k,o) (aW hk),fun k k' o o' _ _ e=>e,fun k _=>rfl,hb⟩
def flat {α:Type}(fl:α→List Value):List α→List Value
 |[]=>[]
 |a::r=>fl a++flat fl r
structure El (α:Type) where
 fl:α→List Value
 sz:Nat
 len:∀ a,(fl a).length=sz
 gr:∀ a,dL (fl a)=true
 pos:sz≠0:=by decide
section
variable {α:Type}(E:El α)
theorem cJ (l:List α):(flat E.fl l).length=l.length*E.sz:=by
 induction l with
 |nil=>simp [flat]
 |cons a r ih=>simp only [flat,List.length_append,E.len,ih,List.length_cons,Nat.succ_mul];omega
theorem aC (l:List α):dL (flat E.fl l)=true:=by
 induction l with
 |nil=>rfl
 |cons a r ih=>simp only [flat,RF,E.gr,ih,Bool.and_self]
theorem aGl {l:List Value}{o n:Nat}(h:o+n≤l.length):oK l o n=some ((l.drop o).take n):=by
 induction n generalizing o with
 |zero=>simp [oK]
 |succ n ih =>
  have hlt:o<l.length:=(by omega);simp only [oK,wR,List.getElem?_eq_getElem hlt,ih (o:=o+1) (by omega)];congr 1;rw [List.drop_eq_getElem_cons hlt];rfl
theorem NT (l:List α)(i:Nat)(hi:i<l.length):((flat E.fl l).drop (i*E.sz)).take E.sz=E.fl l[i]:=by
 induction l generalizing i with
 |nil=>simp at hi
 |cons a r ih =>
  cases i with
  |zero =>
   simp only [flat,Nat.zero_mul,List.drop_zero,List.getElem_cons_zero];rw [List.take_append_of_le_length (by rw [E.len];exact Nat.le_refl _),List.take_of_length_le (by rw [E.len];exact Nat.le_refl _)]
  |succ i =>
   have hl:(fl:List Value)→True:=fun _=>trivial;simp only [flat,List.getElem_cons_succ];rw [show (i+1)*E.sz=(E.fl a).length+i*E.sz by rw [E.len,Nat.succ_mul];omega,List.drop_append,Nat.add_sub_cancel_left,List.drop_eq_nil_of_le (by omega),List.nil_append];exact ih i (by simpa using hi)
theorem zE (l:List α){i o:Nat}(hi:i<l.length)(ho:o=i*E.sz):oK (flat E.fl l) o E.sz=some (E.fl l[i]):=by
 subst ho;have h1:(i+1)*E.sz≤l.length*E.sz:=Nat.mul_le_mul_right _ hi;rw [aGl (by rw [cJ];rw [Nat.succ_mul] at h1;exact h1),NT E l i hi]
def oM (h:Heap)(v:Value)(l:List α):Prop :=
 match v with
 |.slice none n c=>n=0∧c=0∧l=[]
 |.slice (some ⟨k,o,none⟩) n _=>n=l.length∧∃ wr g sz cs,look h k=some (.cells wr g sz cs)∧(cs.drop o).take (flat E.fl l).length=flat E.fl l
 |_=>False
def lX (s:List α→List Value→Option (Bool × Value)):XF:=fun args h nx K=>match args with
 |v::r=>∃ l,oM E h v l∧(match s l r with|some p=>dT p.1 (K p.2 h nx)|none=>False)
 |_=>False
theorem T5 {r:List Value}(hr:fN r=true){h:Heap}{nx:Nat}(g0:Bool)(sz:Nat)(hz:sz≠0):In (.slice (some ⟨0,0,none⟩) 0 0::r) [(0,.cells false g0 sz [])] 1 (.slice none 0 0::r) h nx:=by
 intro ι B w H hs;have hmap:∀ ι1 ι2:Nat→Loc,r.map (tr ι1)=r.map (tr ι2):=fun ι1 ι2=>List.map_congr_left fun v hv=>(by rw [gU (cA hr hv),gU (cA hr hv)]);refine⟨fun _=>.nil none,?_,?_,⟨?_,?_,?_,Nat.le_refl _,?_⟩⟩
 ·rw [List.map_cons,List.map_cons,hmap ι];rfl
 ·intro v hv;cases hv with
  |head=>exact⟨Nat.one_pos,fun _=>⟨rfl,rfl⟩⟩
  |tail _ hm=>exact bU (cA hr hm)
 ·intro j q hq;rw [aB] at hq;split at hq
  ·injection hq with hq;subst hq;exact⟨rfl,fun h=>h.elim (fun h=>absurd h hz) (fun h=>by cases h)⟩
  exact bZ hq
 ·intro j j' q q' hq hq' hne ha b hb;cases hb
 ·intro j q hq;rw [aB] at hq;split at hq
  ·rename_i hb;rw [← beq_true hb];exact Nat.one_pos
  exact bZ hq
 intro j q hq;rw [aB] at hq;split at hq
 ·injection hq with hq;subst hq;intro v hv;cases hv
 exact bZ hq
theorem CP {P:Program}{C:VC}{f:Nat}{s:List α→List Value→Option (Bool × Value)}(hC:bC P C)
  (hs:∀ l r v,s l r=some (true,v)→fN r=true∧gT v=true∧∀ c,C f (.slice (some ⟨0,0,none⟩) l.length c::r) [(0,.cells false true E.sz (flat E.fl l))] 1 (fun u _ _=>u=v)):dJ P f (lX E s):=by
 refine (jD (S:=fun args0 h0 n0 v1 h1 m=>∃ l r c,s l r=some (true,v1)∧args0=.slice (some ⟨0,0,none⟩) l.length c::r∧h0=[(0,.cells false true E.sz (flat E.fl l))]∧n0=1∧h1=[]∧m=0) hC ?_).mono ?_ ?_
 ·rintro args0 h0 n0 v1 h1 m ⟨l,r,c,e1,rfl,rfl,rfl,rfl,rfl⟩;obtain⟨a1,a2,a3⟩:=hs l r v1 e1;exact⟨rfl,_,a3 c,fun v h nx e=>by rw [e];exact lJ a2⟩
 ·intro args h nx K hx;unfold lX at hx;split at hx
  case h_2=>exact hx.elim
  rename_i v r;obtain⟨l,hl,hx⟩:=hx;split at hx
  case h_2=>exact hx.elim
  rename_i p e1;obtain⟨b,u⟩:=p;obtain⟨rfl,hx⟩:=aD.1 hx;obtain⟨a1,a2,a3⟩:=hs l r u e1;have hK:K (fL (fun k=>nx+k) u) (app (oP nx []) (rZ [] h)) (nx+0):=by
   simp only [rZ,zL,oP,o5,iQ a2,Nat.add_zero];exact hx
  unfold oM at hl;split at hl
  ·rename_i n c;obtain⟨rfl,rfl,rfl⟩:=hl;exact⟨_,_,1,u,[],0,⟨[],r,0,e1,rfl,rfl,rfl,rfl,rfl⟩,T5 a1 true E.sz E.pos,hK⟩
  ·rename_i k o n c;obtain⟨rfl,wr,g,sz,cs,hk,hcs⟩:=hl;exact⟨_,_,1,u,[],0,⟨l,r,c,e1,rfl,rfl,rfl,rfl,rfl⟩,aBV a1 hk hcs (aC E l) true E.sz E.pos,hK⟩
  exact hl.elim
 intro args h nx K hx;unfold lX at hx;split at hx
 case h_2=>exact hx.elim
 rename_i v r;obtain⟨l,hl,hx⟩:=hx;split at hx
 case h_2=>exact hx.elim
 rename_i p e1;obtain⟨hb,hx⟩:=aD.1 hx;exact⟨p.2,h,nx,hx,fun K' hk=>⟨l,hl,by rw [e1];exact aJ hb hk⟩⟩
end
def aA:DC:={ A:=aF,T:=tyT,FT:=look ftL,PL:=plF,PR:=fun _=>false,X:=fun _=>none,M:=0 }
theorem dV:pA Go.Proofs.Tryz.prog aA where
 ar:=rfl
 tab:=NZ aDh
 mixed:=by decide +kernel
 funcs:=RM
 xs:=fun _ _ h=>by cases h
def body (xl:List (Nat × XF)):VC:=rS aA none (CX (look xl)) noY
def kG (xl:List (Nat × XF)):Prop:=∀ p∈xl,dJ Go.Proofs.Tryz.prog p.1 p.2
theorem kG.nil:kG []:=fun _ h=>by cases h
theorem kG.cons {f:Nat}{x:XF}{l:List (Nat × XF)}(h:dJ Go.Proofs.Tryz.prog f x)(hl:kG l):kG ((f,x)::l):=List.forall_mem_cons.2 ⟨h,hl⟩
theorem kG.look {xl:List (Nat × XF)}(h:kG xl)(f:Nat)(x:XF)(hx:look xl f=some x):dJ Go.Proofs.Tryz.prog f x:=h (f,x) (aW hx)
theorem aK {xl:List (Nat × XF)}(h:kG xl):bC Go.Proofs.Tryz.prog (body xl):=tL dV (OI h.look) MA (A3 h.look) uR none
def XO (p:Int × Int):Value:=.agg #[iv p.1,iv p.2]
def aAb:Value→Option Int
 |.int .i64 n=>some n
 |_=>none
def R3:Value→Option (Int × Int)
 |.agg ⟨[.int .i64 x,.int .i64 y]⟩=>some (x,y)
 |_=>none
theorem D9 {v:Value}{n:Int}(h:aAb v=some n):v=iv n:=by
 unfold aAb at h;split at h
 ·injection h with h;subst h;rfl
 ·cases h
theorem z9 {v:Value}{p:Int × Int}(h:R3 v=some p):v=XO p:=by
 unfold R3 at h;split at h
 ·injection h with h;subst h;rfl
 ·cases h
def s1P (F:Int × Int→Bool × Value):List Value→Option (Bool × Value)
 |[a]=>(match R3 a with|some p=>some (F p)|none=>none)
 |_=>none
theorem aEK {F:Int × Int→Bool × Value}{args:List Value}{r:Bool × Value}(h:s1P F args=some r):∃ p,args=[XO p]∧F p=r:=by
 unfold s1P at h;split at h
 ·split at h
  ·rename_i p e;injection h with h;exact⟨p,by rw [z9 e],h⟩
  ·cases h
 ·cases h
def s3P (F:Int × Int→Int × Int→Int × Int→Bool × Value):List Value→Option (Bool × Value)
 |[a,b,c]=>(match R3 a with|some p=>(match R3 b with|some q=>(match R3 c with|some r=>some (F p q r)|none=>none)|none=>none)|none=>none)
 |_=>none
theorem aE6 {F:Int × Int→Int × Int→Int × Int→Bool × Value}{args:List Value}{r:Bool × Value}(h:s3P F args=some r):∃ p q s,args=[XO p,XO q,XO s]∧F p q s=r:=by
 unfold s3P at h;split at h
 ·split at h
  ·rename_i p e;split at h
   ·rename_i q e2;split at h
    ·rename_i s e3;injection h with h;exact⟨p,q,s,by rw [z9 e,z9 e2,z9 e3],h⟩
    ·cases h
   ·cases h
  ·cases h
 ·cases h
def s1I (F:Int→Bool × Value):List Value→Option (Bool × Value)
 |[a]=>(match aAb a with|some p=>some (F p)|none=>none)
 |_=>none
theorem aEp {F:Int→Bool × Value}{args:List Value}{r:Bool × Value}(h:s1I F args=some r):∃ p,args=[iv p]∧F p=r:=by
 unfold s1I at h;split at h
 ·split at h
  ·rename_i p e;injection h with h;exact⟨p,by rw [D9 e],h⟩
  ·cases h
 ·cases h
def s2I (F:Int→Int→Bool × Value):List Value→Option (Bool × Value)
 |[a,b]=>(match aAb a with|some p=>(match aAb b with|some q=>some (F p q)|none=>none)|none=>none)
 |_=>none
theorem aF5 {F:Int→Int→Bool × Value}{args:List Value}{r:Bool × Value}(h:s2I F args=some r):∃ p q,args=[iv p,iv q]∧F p q=r:=by
 unfold s2I at h;split at h
 ·split at h
  ·rename_i p e;split at h
   ·rename_i q e2;injection h with h;exact⟨p,q,by rw [D9 e,D9 e2],h⟩
   ·cases h
  ·cases h
 ·cases h
def eR (xl:List (Nat × XF))(f:Nat)(args:List Value)(v:Value):Prop:=body xl f args [] 0 (fun u _ _=>u=v)
theorem x1P {xl:List (Nat × XF)}(hx:kG xl){f:Nat}{F:Int × Int→Bool × Value}(hg:∀ p,gT (F p).2=true)(h:∀ p,(F p).1=true→eR xl f [XO p] (F p).2):dJ Go.Proofs.Tryz.prog f (gX (s1P F)) :=
 vW (aK hx) fun args v hs=>by
  obtain⟨p,rfl,e⟩:=aEK hs;have h1:(F p).1=true:=(by rw [e]);have h2:(F p).2=v:=(by rw [e]);subst h2;exact⟨rfl,hg p,h p h1⟩
theorem x3P {xl:List (Nat × XF)}(hx:kG xl){f:Nat}{F:Int × Int→Int × Int→Int × Int→Bool × Value}(hg:∀ p q r,gT (F p q r).2=true)(h:∀ p q r,(F p q r).1=true→eR xl f [XO p,XO q,XO r] (F p q r).2):dJ Go.Proofs.Tryz.prog f (gX (s3P F)) :=
 vW (aK hx) fun args v hs=>by
  obtain⟨p,q,r,rfl,e⟩:=aE6 hs;have h1:(F p q r).1=true:=(by rw [e]);have h2:(F p q r).2=v:=(by rw [e]);subst h2;exact⟨rfl,hg p q r,h p q r h1⟩
theorem x1I {xl:List (Nat × XF)}(hx:kG xl){f:Nat}{F:Int→Bool × Value}(hg:∀ p,gT (F p).2=true)(h:∀ p,(F p).1=true→eR xl f [iv p] (F p).2):dJ Go.Proofs.Tryz.prog f (gX (s1I F)) :=
 vW (aK hx) fun args v hs=>by
  obtain⟨p,rfl,e⟩:=aEp hs;have h1:(F p).1=true:=(by rw [e]);have h2:(F p).2=v:=(by rw [e]);subst h2;exact⟨rfl,hg p,h p h1⟩
theorem x2I {xl:List (Nat × XF)}(hx:kG xl){f:Nat}{F:Int→Int→Bool × Value}(hg:∀ p q,gT (F p q).2=true)(h:∀ p q,(F p q).1=true→eR xl f [iv p,iv q] (F p q).2):dJ Go.Proofs.Tryz.prog f (gX (s2I F)) :=
 vW (aK hx) fun args v hs=>by
  obtain⟨p,q,rfl,e⟩:=aF5 hs;have h1:(F p q).1=true:=(by rw [e]);have h2:(F p q).2=v:=(by rw [e]);subst h2;exact⟨rfl,hg p q,h p q h1⟩
def dC:El (Int × Int):=⟨fun p=>[iv p.1,iv p.2],2,fun _=>rfl,fun _=>rfl,by decide⟩
def aI (p:Int × Int):Bool:=decide (0≤p.1)&&decide (p.1≤10000)&&decide (0≤p.2)&&decide (p.2≤10000)
def wide (p:Int × Int):Bool:=decide (-1000000≤p.1)&&decide (p.1≤1000000)&&decide (-1000000≤p.2)&&decide (p.2≤1000000)
def aL (a b c:Int × Int):Int:=(b.1 - a.1)*(c.2 - a.2) - (b.2 - a.2)*(c.1 - a.1)
def C8 (n:Int):Int:=if n<0 then -1 else if 0<n then 1 else 0
def gB (a b:Int):Int:=if a<b then -1 else if b<a then 1 else 0
def aS (a b c:Int × Int):Int:=C8 (aL a b c)
set_option maxRecDepth 100000
def X58:Nat × XF:=(77,gX (s1P fun p=>(true,.bool (aI p))))
theorem x58:dJ Go.Proofs.Tryz.prog X58.1 X58.2:=x1P .nil (fun _=>rfl) fun p _=>by
 obtain⟨x,y⟩:=p;unfold eR
 repeat' (conv=>whnf
          apply bm<;>intro h)
 all_goals (conv=>whnf)
 all_goals (simp [aA,aF] at *;simp [aI, *] <;> omega)
theorem IT {a b A B:Int}(h1 : -A≤a)(h2:a≤A)(h3 : -B≤b)(h4:b≤B) : -(A*B)≤a*b∧a*b≤A*B:=by
 have e1:=Int.mul_nonneg (show 0≤A - a by omega) (show 0≤B+b by omega);have e2:=Int.mul_nonneg (show 0≤A+a by omega) (show 0≤B - b by omega);have e3:=Int.mul_nonneg (show 0≤A - a by omega) (show 0≤B - b by omega);have e4:=Int.mul_nonneg (show 0≤A+a by omega) (show 0≤B+b by omega);simp only [Int.sub_mul,Int.mul_sub,Int.add_mul,Int.mul_add] at e1 e2 e3 e4;omega
set_option maxRecDepth 100000
def aJG:Nat × XF:=(161,gX (s1I fun p=>(true,.bool false)))
theorem aO6:dJ Go.Proofs.Tryz.prog aJG.1 aJG.2:=x1I .nil (fun _=>rfl) fun p _=>by
 unfold eR
 repeat' (conv=>whnf
          apply bm<;>intro h)
 all_goals (conv=>whnf)
 all_goals (simp [aA,aF] at *)
def PZ:Nat × XF:=(124,gX (s2I fun p q=>(true,iv (gB p q))))
theorem SS:dJ Go.Proofs.Tryz.prog PZ.1 PZ.2:=x2I (xl:=[aJG]) (.cons aO6 .nil) (fun _ _=>rfl) fun p q _=>by
 unfold eR
 repeat' (conv=>whnf
          apply bm<;>intro h)
 all_goals (conv=>whnf)
 all_goals (simp [aA,aF] at *;simp [gB,iv] <;> omega)
def aIF:Nat × XF:=(169,gX (s3P fun a b c=>(wide a&&wide b&&wide c,iv (aL a b c))))
theorem aMZ:dJ Go.Proofs.Tryz.prog aIF.1 aIF.2:=x3P .nil (fun _ _ _=>rfl) fun a b c hp=>by
 obtain⟨ax,ay⟩:=a;obtain⟨bx,b_y⟩:=b;obtain⟨cx,cy⟩:=c;simp only [wide,Bool.and_eq_true,decide_eq_true_eq] at hp;have m1:=IT (a:=bx - ax) (b:=cy - ay) (A:=2000000) (B:=2000000) (by omega) (by omega) (by omega) (by omega);have m2:=IT (a:=b_y - ay) (b:=cx - ax) (A:=2000000) (B:=2000000) (by omega) (by omega) (by omega) (by omega);unfold eR
 repeat' (conv=>whnf
          apply bm<;>intro h)
 all_goals (conv=>whnf)
 all_goals (simp [aA,aF,aH] at *)
 all_goals first|omega|simp [aL,iv]
def X55:Nat × XF:=(141,gX (s3P fun a b c=>(wide a&&wide b&&wide c,iv (aS a b c))))
theorem x55:dJ Go.Proofs.Tryz.prog X55.1 X55.2:=x3P (xl:=[PZ,aIF]) (.cons SS (.cons aMZ .nil)) (fun _ _ _=>rfl) fun a b c hp=>by
 obtain⟨ax,ay⟩:=a;obtain⟨bx,b_y⟩:=b;obtain⟨cx,cy⟩:=c;unfold eR
 repeat' (conv=>whnf
          apply bm<;>intro h)
 all_goals (conv=>whnf)
 all_goals (simp at *)
 ·simp [aS,gB,C8,iv]
 simp_all
def X17:Nat × XF:=(32,gX (s1P fun p=>(true,iv (if aI p then 0 else 1))))
theorem x17:dJ Go.Proofs.Tryz.prog X17.1 X17.2:=x1P (xl:=[X58]) (.cons x58 .nil) (fun _=>rfl) fun p _=>by
 obtain⟨x,y⟩:=p;unfold eR
 repeat' (conv=>whnf
          apply bm<;>intro h)
 all_goals (conv=>whnf)
 all_goals (simp [aA,aF] at *;simp [iv, *])
theorem lV {p:Int × Int}(h:aI p=true):wide p=true:=by
 simp only [aI,wide,Bool.and_eq_true,decide_eq_true_eq] at *;omega
def tS (a b c:Int × Int):Int:=if aI a&&aI b&&aI c then aS a b c else 0
def aHP:Nat × XF:=(139,gX (s1P fun p=>(true,.bool (!aI p))))
theorem aNo:dJ Go.Proofs.Tryz.prog aHP.1 aHP.2:=x1P (xl:=[X58]) (.cons x58 .nil) (fun _=>rfl) fun p _=>by
 obtain⟨x,y⟩:=p;unfold eR
 repeat' (conv=>whnf
          apply bm<;>intro h)
 all_goals (conv=>whnf)
 all_goals (simp [aA,aF] at *)
set_option maxRecDepth 100000
def jQ:List (Int × Int)→Nat→Int
 |[],_=>-1
 |p::r,i=>if aI p then jQ r (i+1) else i
def zK:Value:=.func (.func 139) #[] #[]
def aIA (l:List (Int × Int)):List Value→Option (Bool × Value)
 |[.func (.func 139) ⟨[]⟩ ⟨[]⟩]=>some (decide (l.length≤1000000000),iv (jQ l 0))
 |_=>none
theorem aD1 {l:List (Int × Int)}{r:List Value}{v:Value}(h:aIA l r=some (true,v)):r=[zK]∧l.length≤1000000000∧v=iv (jQ l 0):=by
 unfold aIA at h;split at h
 ·injection h with h;injection h with h1 h2;exact⟨rfl,by simpa using h1,h2.symm⟩
 ·cases h
def aJx:Nat × XF:=(167,lX dC aIA)
theorem aNu:dJ Go.Proofs.Tryz.prog aJx.1 aJx.2:=CP dC (aK (xl:=[aHP]) (.cons aNo .nil)) fun l r v hs=>by
 obtain⟨rfl,hlen,rfl⟩:=aD1 hs;refine⟨rfl,rfl,fun c=>?_⟩
 conv=>whnf
 refine⟨fun n e h nx=>∃ (i:Nat) (j:Int),j=i∧i≤l.length∧n=l.length - i∧jQ l 0=jQ (l.drop i) i ∧
  e=[(0,.slice (some ⟨0,0,none⟩) l.length c),(1,zK),(7,iv l.length),(8,iv j)]∧h=[(0,.cells false true 2 (flat dC.fl l))]∧nx=1,⟨l.length,?_⟩,?_⟩
 ·refine cZ (e0:=[(0,.slice (some ⟨0,0,none⟩) l.length c),(1,zK),(7,iv l.length),(8,iv 0)]) (h0:=[(0,.cells false true 2 (flat dC.fl l))]) (n0:=1)
   ⟨0,0,rfl,Nat.zero_le _,rfl,rfl,rfl,rfl,rfl⟩ ?_ ?_ (Nat.le_refl _)
  ·exact List.forall_mem_cons.2 ⟨⟨rfl,Nat.one_pos,fun h=>(by cases h)⟩,List.forall_mem_cons.2 ⟨⟨(by show _=some (fL id zK);rw [iQ (show gT zK=true from rfl)];rfl),bU rfl⟩,List.forall_mem_cons.2 ⟨⟨rfl,bU rfl⟩,List.forall_mem_cons.2 ⟨⟨rfl,bU rfl⟩,fun _ h=>(by cases h)⟩⟩⟩⟩
  exact List.forall_mem_cons.2 ⟨⟨Nat.one_pos,_,rfl,aG (aC dC l)⟩,fun _ h=>(by cases h)⟩
 rintro n e h nx ⟨i,j,hj,hi,rfl,hb,rfl,rfl,rfl⟩
 conv=>whnf
 apply bm<;>intro h1
 ·have hlt:i<l.length:=by simp [aA,aF] at h1;omega
  conv=>whnf
  apply bm<;>intro h2
  ·conv=>whnf
   refine JA (zE dC l hlt ?ho) ?_
   case ho=>simp [aA,aF,dC,hj]
   have hd:l.drop i=l[i]::l.drop (i+1):=List.drop_eq_getElem_cons hlt;rw [hd] at hb;generalize l[i]=p at hb;obtain⟨x,y⟩:=p
   conv=>whnf
   apply bm<;>intro h3
   ·conv=>whnf
    simp only [Bool.not_eq_true'] at h3;rw [hb,hj];simp only [jQ,h3];rfl
   conv=>whnf
   apply bm<;>intro h4
   ·conv=>whnf
    simp only [Bool.not_eq_false'] at h3;refine⟨l.length - (i+1),by omega,?_⟩
    refine cZ (e0:=[(0,.slice (some ⟨0,0,none⟩) l.length c),(1,zK),(7,iv l.length),(8,iv (j+1))]) (h0:=[(0,.cells false true 2 (flat dC.fl l))]) (n0:=1)
     ⟨i+1,j+1,by omega,hlt,rfl,?_,rfl,rfl,rfl⟩ ?_ ?_ (Nat.le_refl _)
    ·rw [hb];simp only [jQ,h3,if_true]
    ·exact List.forall_mem_cons.2 ⟨⟨rfl,Nat.one_pos,fun h=>(by cases h)⟩,List.forall_mem_cons.2 ⟨⟨(by show _=some (fL id zK);rw [iQ (show gT zK=true from rfl)];rfl),bU rfl⟩,List.forall_mem_cons.2 ⟨⟨rfl,bU rfl⟩,List.forall_mem_cons.2 ⟨⟨rfl,bU rfl⟩,fun _ h=>(by cases h)⟩⟩⟩⟩
    exact List.forall_mem_cons.2 ⟨⟨Nat.one_pos,_,rfl,aG (aC dC l)⟩,fun _ h=>(by cases h)⟩
   simp [aA,aF,aH] at h4;omega
  simp [aA,aF] at h2;omega
 have hlt:l.length≤i:=by simp [aA,aF] at h1;omega
 conv=>whnf
 rw [hb,List.drop_eq_nil_of_le hlt];rfl
theorem zX:∀ (l:List (Int × Int)) (i:Nat),decide (0≤jQ l i)=!(l.all aI)
 |[],i=>rfl
 |p::r,i=>by
  by_cases hp:aI p=true
  ·simp only [jQ,List.all_cons,hp,if_true,Bool.true_and];exact zX r (i+1)
  have hp':aI p=false:=(by simpa using hp);simp [jQ,List.all_cons,hp']
def S99 (l:List (Int × Int)):List Value→Option (Bool × Value)
 |[.func (.func 139) ⟨[]⟩ ⟨[]⟩]=>some (decide (l.length≤1000000000),.bool (!(l.all aI)))
 |_=>none
theorem aEn {l:List (Int × Int)}{r:List Value}{v:Value}(h:S99 l r=some (true,v)):r=[zK]∧l.length≤1000000000∧v=.bool (!(l.all aI)):=by
 unfold S99 at h;split at h
 ·injection h with h;injection h with h1 h2;exact⟨rfl,by simpa using h1,h2.symm⟩
 ·cases h
theorem Q0 {α:Type}(E:El α){l:List α}{c:Nat}{wr g:Bool}{sz:Nat}{h:Heap}(hk:look h 0=some (.cells wr g sz (flat E.fl l))):oM E h (.slice (some ⟨0,0,none⟩) l.length c) l :=
 ⟨rfl,wr,g,sz,_,hk,by rw [List.drop_zero,List.take_length]⟩
def X99:Nat × XF:=(138,lX dC S99)
theorem x99:dJ Go.Proofs.Tryz.prog X99.1 X99.2:=CP dC (aK (xl:=[aJx]) (.cons aNu .nil)) fun l r v hs=>by
 obtain⟨rfl,hlen,rfl⟩:=aEn hs;refine⟨rfl,rfl,fun c=>?_⟩
 conv=>whnf
 refine⟨l,Q0 dC rfl,?_⟩
 conv=>whnf
 apply bm<;>intro h1
 ·conv=>whnf
  rw [← zX l 0];rfl
 exact absurd hlen (by simpa using h1)
def S54 (l:List (Int × Int)):List Value→Option (Bool × Value)
 |[]=>some (decide (l.length≤1000000000),.bool (l.all aI))
 |_=>none
theorem aEf {l:List (Int × Int)}{r:List Value}{v:Value}(h:S54 l r=some (true,v)):r=[]∧l.length≤1000000000∧v=.bool (l.all aI):=by
 unfold S54 at h;split at h
 ·injection h with h;injection h with h1 h2;exact⟨rfl,by simpa using h1,h2.symm⟩
 ·cases h
def X54:Nat × XF:=(75,lX dC S54)
theorem x54:dJ Go.Proofs.Tryz.prog X54.1 X54.2:=CP dC (aK (xl:=[X99]) (.cons x99 .nil)) fun l r v hs=>by
 obtain⟨rfl,hlen,rfl⟩:=aEf hs;refine⟨rfl,rfl,fun c=>?_⟩
 conv=>whnf
 refine⟨l,Q0 dC rfl,?_⟩
 conv=>whnf
 apply bm<;>intro h1
 ·conv=>whnf
  simp [aA,aF]
 exact absurd hlen (by simpa using h1)
def X15:Nat × XF:=(92,gX (s3P fun a b c=>(true,iv (tS a b c))))
theorem x15:dJ Go.Proofs.Tryz.prog X15.1 X15.2:=x3P (xl:=[X54,X55]) (.cons x54 (.cons x55 .nil)) (fun _ _ _=>rfl) fun a b c hp=>by
 obtain⟨ax,ay⟩:=a;obtain⟨bx,b_y⟩:=b;obtain⟨cx,cy⟩:=c;unfold eR
 conv=>whnf
 refine⟨[(ax,ay),(bx,b_y),(cx,cy)],⟨rfl,_,_,_,_,rfl,rfl⟩,?_⟩
 repeat' (conv=>whnf
          apply bm<;>intro h)
 all_goals (conv=>whnf)
 all_goals (clear hp;simp only [aA,aF,tS] at *;simp at *)
 all_goals (cases ha:aI (ax,ay) <;> cases hb:aI (bx,b_y) <;> cases hc:aI (cx,cy) <;> simp_all [lV,iv])
def s0 (v:Value):List Value→Option (Bool × Value)
 |[]=>some (true,v)
 |_=>none
theorem SW (a b c:Int × Int):aL b a c = - aL a b c:=by
 simp only [aL,Int.sub_mul,Int.mul_sub];have h1:=Int.mul_comm a.1 b.2;have h2:=Int.mul_comm a.2 b.1;have h3:=Int.mul_comm a.1 c.2;have h4:=Int.mul_comm a.2 c.1;have h5:=Int.mul_comm b.1 c.2;have h6:=Int.mul_comm b.2 c.1;have h7:=Int.mul_comm a.1 a.2;have h8:=Int.mul_comm b.1 b.2;omega
theorem zM (a b c:Int × Int) : -1≤aS a b c∧aS a b c≤1:=by
 unfold aS C8;split <;> (try split) <;> omega
end Go.Aw
end

namespace Go.Aw
theorem kP {D u:Int}(hD:0<D)(h:0≤D*u):0≤u:=by
 by_cases hu:0≤u
 ·exact hu
 have:0<D*(-u):=Int.mul_pos hD (by omega);rw [Int.mul_neg] at this;omega
theorem aM4 {D E t u:Int}(h:D*u=E*t)(hD:0<D)(h0:0≤t)(h1:t≤D):(0≤E→0≤u∧u≤E)∧(E≤0→E≤u∧u≤0):=by
 refine⟨fun hE=>⟨?_,?_⟩,fun hE=>⟨?_,?_⟩⟩
 ·exact kP hD (by rw [h];exact Int.mul_nonneg hE h0)
 ·have h2:0≤D*(E - u):=by
   rw [Int.mul_sub,h,Int.mul_comm D E,← Int.mul_sub];exact Int.mul_nonneg hE (by omega)
  have:=kP hD h2;omega
 ·have h2:0≤D*(u - E):=by
   rw [Int.mul_sub,h,Int.mul_comm D E,← Int.mul_sub];rw [show E*(t - D)=(-E)*(D - t) by rw [Int.neg_mul,← Int.mul_neg];congr 1;omega];exact Int.mul_nonneg (by omega) (by omega)
  have:=kP hD h2;omega
 have h2:0≤D*(-u):=by
  rw [Int.mul_neg,h,← Int.neg_mul];exact Int.mul_nonneg (by omega) h0
 have:=kP hD h2;omega
theorem aBm {D u:Int}(h:D*u=0)(hD:D≠0):u=0:=by
 rcases Int.mul_eq_zero.1 h with h|h
 ·exact absurd h hD
 exact h
theorem U4 {ax ay bx b2 px py:Int}(h:(bx - ax)*(py - ay)=(b2 - ay)*(px - ax))(hlt:ax<bx) :
  ((ax<px∨(ax=px∧ay≤py))∧(px<bx∨(px=bx∧py≤b2)))↔((ax≤px∧px≤bx)∧((ay≤b2→ay≤py∧py≤b2)∧(b2≤ay→b2≤py∧py≤ay))):=by
 constructor
 ·intro⟨h1,h2⟩;have hx:ax≤px∧px≤bx:=(by omega);have hc:=aM4 (D:=bx - ax) (E:=b2 - ay) (t:=px - ax) (u:=py - ay) h (by omega) (by omega) (by omega);refine⟨hx,fun he=>?_,fun he=>?_⟩
  ·have:=hc.1 (by omega);omega
  have:=hc.2 (by omega);omega
 intro⟨h1,h2,h3⟩;have hc:=aM4 (D:=bx - ax) (E:=b2 - ay) (t:=px - ax) (u:=py - ay) h (by omega) (by omega) (by omega);refine⟨?_,?_⟩
 ·by_cases e:ax<px
  ·exact .inl e
  have e:ax=px:=(by omega);subst e;rw [Int.sub_self,Int.mul_zero] at h;have:=aBm h (by omega);exact .inr ⟨rfl,by omega⟩
 by_cases e:px<bx
 ·exact .inl e
 have e:px=bx:=(by omega);subst e;have h4:(px - ax)*(py - b2)=0:=by
  rw [show py - b2=(py - ay) - (b2 - ay) by omega,Int.mul_sub,h,Int.mul_comm (b2 - ay)];omega
 have:=aBm h4 (by omega);exact .inr ⟨rfl,by omega⟩
end Go.Aw

noncomputable section
namespace Go.Aw
set_option maxRecDepth 100000
structure Cd (α:Type) where
 dec:Value→Option α
 enc:α→Value
 ok:∀ v a,dec v=some a→v=enc a
 gr:∀ a,gA (enc a)=true
def cI:Cd Int:=⟨aAb,iv,fun _ _ h=>D9 h,fun _=>rfl⟩
def cP:Cd (Int × Int):=⟨R3,XO,fun _ _ h=>z9 h,fun _=>rfl⟩
abbrev Sg:=(Int × Int) × (Int × Int)
def sgv (s:Sg):Value:=.agg #[iv s.1.1,iv s.1.2,iv s.2.1,iv s.2.2]
def aJR:Value→Option Sg
 |.agg ⟨[.int .i64 a,.int .i64 b,.int .i64 c,.int .i64 d]⟩=>some ((a,b),(c,d))
 |_=>none
theorem aG8 {v:Value}{s:Sg}(h:aJR v=some s):v=sgv s:=by
 unfold aJR at h;split at h
 ·injection h with h;subst h;rfl
 ·cases h
def cS:Cd Sg:=⟨aJR,sgv,fun _ _ h=>aG8 h,fun _=>rfl⟩
section
variable {α β γ:Type}(a:Cd α)(b:Cd β)(c:Cd γ)
def s1 (F:α→Bool × Value):List Value→Option (Bool × Value)
 |[u]=>(match a.dec u with|some x=>some (F x)|none=>none)
 |_=>none
def s2 (F:α→β→Bool × Value):List Value→Option (Bool × Value)
 |[u,v]=>(match a.dec u with|some x=>(match b.dec v with|some y=>some (F x y)|none=>none)|none=>none)
 |_=>none
def s3 (F:α→β→γ→Bool × Value):List Value→Option (Bool × Value)
 |[u,v,w]=>(match a.dec u with|some x=>(match b.dec v with|some y=>(match c.dec w with|some z=>some (F x y z)|none=>none)|none=>none)|none=>none)
 |_=>none
theorem aIm {F:α→Bool × Value}{args:List Value}{r:Bool × Value}(h:s1 a F args=some r):∃ x,args=[a.enc x]∧F x=r:=by
 unfold s1 at h;split at h
 ·split at h
  ·rename_i x e;injection h with h;exact⟨x,by rw [a.ok _ _ e],h⟩
  ·cases h
 ·cases h
theorem aIW {F:α→β→Bool × Value}{args:List Value}{r:Bool × Value}(h:s2 a b F args=some r):∃ x y,args=[a.enc x,b.enc y]∧F x y=r:=by
 unfold s2 at h;split at h
 ·split at h
  ·rename_i x e;split at h
   ·rename_i y e2;injection h with h;exact⟨x,y,by rw [a.ok _ _ e,b.ok _ _ e2],h⟩
   ·cases h
  ·cases h
 ·cases h
theorem aBS {F:α→β→γ→Bool × Value}{args:List Value}{r:Bool × Value}(h:s3 a b c F args=some r):∃ x y z,args=[a.enc x,b.enc y,c.enc z]∧F x y z=r:=by
 unfold s3 at h;split at h
 ·split at h
  ·rename_i x e;split at h
   ·rename_i y e2;split at h
    ·rename_i z e3;injection h with h;exact⟨x,y,z,by rw [a.ok _ _ e,b.ok _ _ e2,c.ok _ _ e3],h⟩
    ·cases h
   ·cases h
  ·cases h
 ·cases h
theorem x1 {xl:List (Nat × XF)}(hx:kG xl){f:Nat}{F:α→Bool × Value}(hg:∀ x,gT (F x).2=true)(h:∀ x,(F x).1=true→eR xl f [a.enc x] (F x).2):dJ Go.Proofs.Tryz.prog f (gX (s1 a F)) :=
 vW (aK hx) fun args v hs=>by
  obtain⟨x,rfl,e⟩:=aIm a hs;have h1:(F x).1=true:=(by rw [e]);have h2:(F x).2=v:=(by rw [e]);subst h2;exact⟨by simp [fN,a.gr],hg x,h x h1⟩
theorem x2 {xl:List (Nat × XF)}(hx:kG xl){f:Nat}{F:α→β→Bool × Value}(hg:∀ x y,gT (F x y).2=true)(h:∀ x y,(F x y).1=true→eR xl f [a.enc x,b.enc y] (F x y).2):dJ Go.Proofs.Tryz.prog f (gX (s2 a b F)) :=
 vW (aK hx) fun args v hs=>by
  obtain⟨x,y,rfl,e⟩:=aIW a b hs;have h1:(F x y).1=true:=(by rw [e]);have h2:(F x y).2=v:=(by rw [e]);subst h2;exact⟨by simp [fN,a.gr,b.gr],hg x y,h x y h1⟩
theorem x3 {xl:List (Nat × XF)}(hx:kG xl){f:Nat}{F:α→β→γ→Bool × Value}(hg:∀ x y z,gT (F x y z).2=true)(h:∀ x y z,(F x y z).1=true→eR xl f [a.enc x,b.enc y,c.enc z] (F x y z).2):dJ Go.Proofs.Tryz.prog f (gX (s3 a b c F)) :=
 vW (aK hx) fun args v hs=>by
  obtain⟨x,y,z,rfl,e⟩:=aBS a b c hs;have h1:(F x y z).1=true:=(by rw [e]);have h2:(F x y z).2=v:=(by rw [e]);subst h2;exact⟨by simp [fN,a.gr,b.gr,c.gr],hg x y z,h x y z h1⟩
end
def aM3 (xl:List (Nat × XF))(n:Nat):VC:=rS aA (some n) (CX (look xl)) noY
theorem mB {xl:List (Nat × XF)}(h:kG xl)(n:Nat):bC Go.Proofs.Tryz.prog (aM3 xl n):=tL dV (OI h.look) MA (A3 h.look) uR (some n)
def aR:El Int:=⟨fun n=>[iv n],1,fun _=>rfl,fun _=>rfl,by decide⟩
def ZW (a b:Int):Int:=if a=0 then b else a
def aLY:List Int→List Value→Option (Bool × Value)
 |[a,b],[]=>some (true,iv (ZW a b))
 |_,_=>none
def aBe:Nat × XF:=(123,lX aR aLY)
theorem aIh:dJ Go.Proofs.Tryz.prog aBe.1 aBe.2:=CP aR (mB (xl:=[]) .nil 4) fun l r v hs=>by
 have:∃ a b,l=[a,b]∧r=[]∧v=iv (ZW a b):=by
  unfold aLY at hs;split at hs
  ·injection hs with hs;injection hs with _ h2;exact⟨_,_,rfl,rfl,h2.symm⟩
  ·cases hs
 obtain⟨a,b,rfl,rfl,rfl⟩:=this;refine⟨rfl,rfl,fun c=>?_⟩
 repeat' (conv=>whnf
          apply bm<;>intro h)
 all_goals (conv=>whnf)
 all_goals (simp only [aA,aF,iv,ZW] at *;simp at *)
 all_goals (try simp_all)
theorem Z1 (p:Int × Int):(p.1,p.2)=p:=rfl
def jK (a b:Int × Int):Int:=ZW (gB a.1 b.1) (gB a.2 b.2)
def aCo:Nat × XF:=(113,gX (s2 cP cP fun a b=>(true,iv (jK a b))))
theorem aG3:dJ Go.Proofs.Tryz.prog aCo.1 aCo.2:=x2 cP cP (xl:=[PZ,aBe]) (.cons SS (.cons aIh .nil)) (fun _ _=>rfl) fun a b _=>by
 obtain⟨ax,ay⟩:=a;obtain⟨bx,b_y⟩:=b;unfold eR
 conv=>whnf
 refine⟨[gB ax bx,gB ay b_y],⟨rfl,_,_,_,_,rfl,rfl⟩,?_⟩
 conv=>whnf
 rfl
def bD (s:Sg):(Int × Int) × (Int × Int):=if 0<jK s.1 s.2 then (s.2,s.1) else (s.1,s.2)
def X74:Nat × XF:=(157,gX (s1 cS fun s=>(true,.tuple #[XO (bD s).1,XO (bD s).2])))
theorem x74:dJ Go.Proofs.Tryz.prog X74.1 X74.2:=x1 cS (xl:=[aCo]) (.cons aG3 .nil) (fun _=>rfl) fun s _=>by
 obtain⟨⟨ax,ay⟩,⟨bx,b_y⟩⟩:=s;unfold eR
 repeat' (conv=>whnf
          apply bm<;>intro h)
 all_goals (conv=>whnf)
 all_goals (simp only [aA,aF,decide_eq_true_eq,decide_eq_false_iff_not] at h)
 ·simp [bD,h,XO,iv]
 simp [bD,h,XO,iv]
def I5 (p:Int × Int)(s:Sg):Bool:=decide (jK (bD s).1 p≤0)&&decide (jK p (bD s).2≤0)
def aJm:Nat × XF:=(168,gX (s2 cP cS fun p s=>(true,.bool (I5 p s))))
theorem aNE:dJ Go.Proofs.Tryz.prog aJm.1 aJm.2:=x2 cP cS (xl:=[aCo,X74]) (.cons aG3 (.cons x74 .nil)) (fun _ _=>rfl) fun p s _=>by
 obtain⟨px,py⟩:=p;obtain⟨⟨ax,ay⟩,⟨bx,b_y⟩⟩:=s;unfold eR
 repeat' (conv=>whnf
          apply bm<;>intro h)
 all_goals (conv=>whnf)
 all_goals (simp only [aA,aF,Z1] at *;simp at h ⊢;simp [I5, *] <;> omega)
def wK (s:Sg):Bool:=wide s.1&&wide s.2
def onS (p:Int × Int)(s:Sg):Bool:=decide (aS s.1 s.2 p=0)&&I5 p s
def X65:Nat × XF:=(140,gX (s2 cP cS fun p s=>(wide p&&wK s,.bool (onS p s))))
theorem x65:dJ Go.Proofs.Tryz.prog X65.1 X65.2:=x2 cP cS (xl:=[X55,aJm]) (.cons x55 (.cons aNE .nil)) (fun _ _=>rfl) fun p s hp=>by
 obtain⟨px,py⟩:=p;obtain⟨⟨ax,ay⟩,⟨bx,b_y⟩⟩:=s;simp only [wK,Bool.and_eq_true] at hp;unfold eR
 repeat' (conv=>whnf
          apply bm<;>intro h)
 all_goals (conv=>whnf)
 all_goals (simp only [aA,aF,Z1] at *;(try simp at h);(try simp);(try simp_all [onS]))
def kT (a b:Int × Int):Bool:=decide (a.1=b.1)&&(decide (a.2=b.2)&&true)
def dR (s:Sg):Bool:=aI s.1&&aI s.2&&!(kT s.1 s.2)
def X64:Nat × XF:=(110,gX (s1 cS fun s=>(true,.bool (dR s))))
theorem x64:dJ Go.Proofs.Tryz.prog X64.1 X64.2:=x1 cS (xl:=[X58]) (.cons x58 .nil) (fun _=>rfl) fun s _=>by
 obtain⟨⟨ax,ay⟩,⟨bx,b_y⟩⟩:=s;unfold eR
 repeat' (conv=>whnf
          apply bm<;>intro h)
 all_goals (conv=>whnf)
 all_goals (simp [aA,aF,kT] at *;simp [dR,kT, *])
def JS (p:Int × Int)(s:Sg):Bool:=aI p&&dR s&&onS p s
theorem CL {s:Sg}(h:dR s=true):wK s=true:=by
 simp only [dR,wK,Bool.and_eq_true] at *;exact⟨lV h.1.1,lV h.1.2⟩
def X20:Nat × XF:=(91,gX (s2 cP cS fun p s=>(true,.bool (JS p s))))
theorem x20:dJ Go.Proofs.Tryz.prog X20.1 X20.2:=x2 cP cS (xl:=[X58,X64,X65]) (.cons x58 (.cons x64 (.cons x65 .nil))) (fun _ _=>rfl) fun p s hp=>by
 obtain⟨px,py⟩:=p;obtain⟨⟨ax,ay⟩,⟨bx,b_y⟩⟩:=s;unfold eR
 repeat' (conv=>whnf
          apply bm<;>intro h)
 all_goals (conv=>whnf)
 all_goals (simp [aA,aF] at *)
 all_goals first|(simp [JS, *];done)|(simp_all [JS,lV,CL];done)
theorem lY {α:Type}(E:El α)(l:List α){i k o:Nat}{v:Value}(hi:i<l.length)(hk:(E.fl l[i])[k]? = some v)(hks:k<E.sz)(ho:o=i*E.sz+k):nth (flat E.fl l) o=some v:=by
 subst ho;have h1:=NT E l i hi;rw [wR,← hk,← h1,List.getElem?_take_of_lt hks,List.getElem?_drop]
theorem aO9 (l:List (Int × Int)){i o:Nat}(hi:i<l.length)(ho:o=i*2):nth (flat dC.fl l) o=some (iv l[i].1) :=
 lY dC l (k:=0) hi rfl (by decide) (by simp [ho,dC])
def mx (a b:Int):Int:=if a<b then b else a
theorem aJ1 (a b:Int):aA.A.add a b=a+b:=rfl
theorem aCE (a b:Int):aA.A.mul a b=a*b:=rfl
theorem aAK (a b:Int):aA.A.lt a b=decide (a<b):=rfl
theorem aL3 (a b:Int):aA.A.le a b=decide (a≤b):=rfl
theorem aDe (a b:Int):aA.A.eq a b=decide (a=b):=rfl
theorem YE (k:IntKind)(a:Int):aA.A.fits k a=aH k a:=rfl
theorem aJo (a:Nat):aA.A.num a=(a:Int):=rfl
theorem aEJ (a b:Bool):aA.A.andB a b=(a&&b):=rfl
theorem MH (a:Bool):aA.A.notB a=!a:=rfl
theorem NQ (a b:Bool):aA.A.eqB a b=(a == b):=rfl
def mL (l:List (Int × Int))(i:Nat):Int × Int:=l.getD i (0,0)
theorem E5 {l:List (Int × Int)}{i:Nat}(h:i<l.length):mL l i=l[i]:=by
 unfold mL;rw [List.getD_eq_getElem?_getD,List.getElem?_eq_getElem h];rfl
theorem aHy (l:List (Int × Int)){i o:Nat}(hi:i<l.length)(ho:o=i*2):nth (flat dC.fl l) o=some (iv (mL l i).1):=by rw [E5 hi];exact aO9 l hi ho
def GM (s t:Sg):Int × Int:=if jK (bD s).1 (bD t).1<0 then (bD t).1 else (bD s).1
def sJ (s t:Sg):Int × Int:=if jK (bD t).2 (bD s).2<0 then (bD t).2 else (bD s).2
def aEX (o:Int):Int:=if o = -1 then 4 else if o=0 then 1 else 0
def RN (a b c d:Int):Int :=
 if 0<a*b∨0<c*d then 0
 else if (c=0∨d=0)∧(a=0∨b=0) then 1
 else if (c=0∨d=0)∨(a=0∨b=0) then 2
 else 3
def fR (s t:Sg):Int :=
 if aS s.1 s.2 t.1=0∧aS s.1 s.2 t.2=0 then aEX (jK (GM s t) (sJ s t))
 else RN (aS s.1 s.2 t.1) (aS s.1 s.2 t.2) (aS t.1 t.2 s.1) (aS t.1 t.2 s.2)
def u8 (n:Int):Value:=.int .u8 n
theorem y9 (a b:Int × Int):jK a b = -1∨jK a b=0∨jK a b=1:=by
 unfold jK ZW gB;split <;> split <;> (try split) <;> (try split) <;> omega
theorem aEM {o:Int}(h:o = -1∨o=0∨o=1){k:Nat}(hk:k=(o+1).toNat):nth [u8 4,u8 1,u8 0] k=some (u8 (aEX o)):=by
 subst hk;rcases h with rfl|rfl|rfl <;> rfl
theorem aFw (a b:Int × Int):aA.A.fits .i64 (aA.A.add (jK a b) 1)=true:=by
 rcases y9 a b with e|e|e <;> rw [e] <;> rfl
theorem aJv (a b:Int × Int):aA.A.andB (aA.A.le 0 (aA.A.add (jK a b) 1)) (aA.A.lt (aA.A.add (jK a b) 1) (aA.A.num 3))=true:=by
 rcases y9 a b with e|e|e <;> rw [e] <;> rfl
def X68:Nat × XF:=(107,gX (s2 cS cS fun s t=>(wK s&&wK t,u8 (fR s t))))
theorem x68:dJ Go.Proofs.Tryz.prog X68.1 X68.2:=x2 cS cS (xl:=[X55,X74,aCo]) (.cons x55 (.cons x74 (.cons aG3 .nil))) (fun _ _=>rfl) fun s t hp=>by
 obtain⟨⟨ax,ay⟩,⟨bx,b2⟩⟩:=s;obtain⟨⟨cx,cy⟩,⟨dx,dy⟩⟩:=t;have l1:=zM (ax,ay) (bx,b2) (cx,cy);have l2:=zM (ax,ay) (bx,b2) (dx,dy);have l3:=zM (cx,cy) (dx,dy) (ax,ay);have l4:=zM (cx,cy) (dx,dy) (bx,b2);have m1:=IT (A:=1) (B:=1) l1.1 l1.2 l2.1 l2.2;have m2:=IT (A:=1) (B:=1) l3.1 l3.2 l4.1 l4.2;simp only [wK,Bool.and_eq_true] at hp;unfold eR
 repeat' (conv=>whnf
          apply bm<;>intro h)
 all_goals (try (refine kW (aEM (y9 _ _) (by show 0+(_+1:Int).toNat*1=_;rw [Nat.zero_add,Nat.mul_one])) ?_))
 all_goals (try (conv=>whnf))
 all_goals (clear l3 l4)
 all_goals first
  |(show _=_
    simp only [aJ1,aCE,aAK,aDe,YE,NQ,aEJ,MH,aL3,aJo,aH,Z1,Bool.and_eq_true,beq_iff_eq,beq_eq_false_iff_ne,ne_eq,decide_eq_true_eq,decide_eq_false_iff_not,not_and,Bool.not_eq_true',Bool.not_eq_false'] at *;simp only [fR,RN,GM,sJ]
    simp_all [u8,iv]
    done)
  |(show _=_
    simp only [aAK,aDe,NQ,Z1,beq_iff_eq,decide_eq_true_eq,decide_eq_false_iff_not] at *;simp only [fR,GM,sJ, *,and_self,if_true,if_false]
    done)
  |(rw [aFw] at h;cases h)
  |(rw [aJv] at h;cases h)
  |(simp [hp] at h;done)
  |(simp only [aCE,YE,aH,Z1,Bool.eq_false_iff,ne_eq,Bool.and_eq_true,decide_eq_true_eq] at h;omega)
  |skip
 trace_state
def XN (n a b:Int):Bool:=decide ((if b<a then b else a)≤n)&&decide (n≤(if a<b then b else a))
def r8 (p:Int × Int)(s:Sg):Bool:=XN p.1 s.1.1 s.2.1&&XN p.2 s.1.2 s.2.2&&decide (aS s.1 s.2 p=0)
theorem zJ (a b:Int × Int):jK a b≤0↔a.1<b.1∨(a.1=b.1∧a.2≤b.2):=by
 unfold jK ZW gB;split <;> split <;> (try split) <;> (try split) <;> omega
theorem kN (a b c:Int × Int):aS a b c=0↔aL a b c=0:=by
 unfold aS C8;split <;> (try split) <;> omega
theorem JP (p:Int × Int)(s:Sg)(h:dR s=true):onS p s=r8 p s:=by
 obtain⟨px,py⟩:=p;obtain⟨⟨ax,ay⟩,⟨bx,b2⟩⟩:=s;have hne:¬ (ax=bx∧ay=b2):=by
  simp only [dR,kT,Bool.and_eq_true,Bool.not_eq_true',Bool.and_true,Bool.and_eq_false_imp,decide_eq_true_eq,decide_eq_false_iff_not] at h;intro⟨e1,e2⟩;exact h.2 e1 e2
 clear h;unfold onS r8 I5;by_cases hc:aS (ax,ay) (bx,b2) (px,py)=0
 ·have hcr:=(kN _ _ _).1 hc;simp only [aL] at hcr;rw [decide_eq_true hc,Bool.true_and,Bool.and_true,Bool.eq_iff_iff];simp only [XN,Bool.and_eq_true,decide_eq_true_eq,zJ];by_cases h1:ax<bx
  ·have he:bD ((ax,ay),(bx,b2))=((ax,ay),(bx,b2)):=by
    unfold bD;rw [if_neg];have:=(zJ (ax,ay) (bx,b2)).2 (.inl h1);simp only at *;omega
   rw [he];have hb:=U4 (ax:=ax) (ay:=ay) (bx:=bx) (b2:=b2) (px:=px) (py:=py) (by omega) h1;simp only at *;rw [hb];omega
  by_cases h2:bx<ax
  ·have he:bD ((ax,ay),(bx,b2))=((bx,b2),(ax,ay)):=by
    unfold bD;rw [if_pos];have:=(zJ (ax,ay) (bx,b2));simp only at *;omega
   rw [he];have hsw:=SW (ax,ay) (bx,b2) (px,py);simp only [aL] at hsw;have hb:=U4 (ax:=bx) (ay:=b2) (bx:=ax) (b2:=ay) (px:=px) (py:=py) (by omega) h2;simp only at *;rw [hb];omega
  have hx:ax=bx:=(by omega);subst hx;have hE:b2 - ay≠0:=(by omega);rw [Int.sub_self,Int.zero_mul] at hcr;have ht:px - ax=0:=aBm (D:=b2 - ay) (by omega) hE;have hpx:px=ax:=(by omega);subst hpx;by_cases h3:ay<b2
  ·have he:bD ((px,ay),(px,b2))=((px,ay),(px,b2)):=by
    unfold bD;rw [if_neg];have:=(zJ (px,ay) (px,b2)).2 (.inr ⟨rfl,by omega⟩);simp only at *;omega
   rw [he];have h4:¬ (b2<ay):=(by omega);simp only [Int.lt_irrefl,if_false,h3,h4,if_true];simp
  have he:bD ((px,ay),(px,b2))=((px,b2),(px,ay)):=by
   unfold bD;rw [if_pos];have:=(zJ (px,ay) (px,b2));simp only at *;omega
  rw [he];have h4:b2<ay:=(by omega);simp only [Int.lt_irrefl,if_false,h3,h4,if_true];simp
 simp [hc]
end Go.Aw
end

noncomputable section
namespace Go.Aw
open Go.RowKit
def kR:Option Int→Value→Value
 |none,v=>v
 |some e,v=>.tuple #[v,.int .i64 e]
section
variable {α:Type}(E:El α)
def fX (s:List Value→Option (Bool × List α × Option Int)):XF:=fun args h nx K=>match s args with
 |some p=>dT p.1 (match p.2.1 with
  |[]=>K (kR p.2.2 (.slice none 0 0)) h nx
  |a::r=>K (kR p.2.2 (.slice (some ⟨nx,0,none⟩) (a::r).length (a::r).length)) (cU h nx (.cells true false E.sz (flat E.fl (a::r)))) (nx+1))
 |none=>False
def Yields (l:List α)(e:Option Int):KE:=fun v h _=>match l with
 |[]=>v=kR e (.slice none 0 0)
 |a::r=>∃ q,v=kR e (.slice (some ⟨q,0,none⟩) (a::r).length (a::r).length)∧look h q=some (.cells true false E.sz (flat E.fl (a::r)))
theorem J4 {ρ:Nat→Nat}(e:Option Int){k n c:Nat}:fL ρ (kR e (.slice (some ⟨k,0,none⟩) n c))=kR e (.slice (some ⟨ρ k,0,none⟩) n c):=by
 cases e with
 |none=>rfl
 |some e=>simp [kR,fL,tr,dW,bO,dY,jR]
theorem JW (e:Option Int):gT (kR e (.slice none 0 0))=true:=by cases e <;> rfl
theorem aB5 (e:Option Int)(n c:Nat):x6 1 (kR e (.slice (some ⟨0,0,none⟩) n c)):=by
 cases e with
 |none=>exact⟨Nat.one_pos,fun h=>by cases h⟩
 |some e =>
  intro v hv;simp at hv;rcases hv with rfl|rfl
  ·exact⟨Nat.one_pos,fun h=>by cases h⟩
  trivial
end
end Go.Aw
end

namespace Go.Aw
theorem par {ex ey ux uy wx wy:Int}(h:ex*uy=ey*ux):ex*(wx*uy - wy*ux)=ux*(wx*ey - wy*ex):=by
 have h1:ex*(wx*uy)=wx*(ey*ux):=(by rw [← h,← Int.mul_assoc,Int.mul_comm ex wx,Int.mul_assoc]);rw [Int.mul_sub,Int.mul_sub,h1];congr 1
 ·rw [← Int.mul_assoc,Int.mul_comm (wx*ey),← Int.mul_assoc,Int.mul_comm ux]
 rw [← Int.mul_assoc,Int.mul_comm ex,Int.mul_assoc,Int.mul_comm ex,← Int.mul_assoc,Int.mul_comm wy,Int.mul_assoc]
theorem aLe {ex ux q r:Int}(he:0<ex)(h:ex*q=ux*r)(hne:¬ (q=0∧r - q=0)):(0≤ux∧ux≤ex)↔(0≤q*(r - q)):=by
 have hr:r≠0:=by
  intro hr;subst hr;rw [Int.mul_zero] at h;have:q=0:=by
   rcases Int.mul_eq_zero.1 h with h|h
   ·omega
   exact h
  exact hne ⟨this,by omega⟩
 have e2:ex*(r - q)=(ex - ux)*r:=(by rw [Int.mul_sub,Int.sub_mul,h]);have key:(ex*ex)*(q*(r - q))=(ux*(ex - ux))*(r*r):=by
  calc (ex*ex)*(q*(r - q))=(ex*q)*(ex*(r - q)):=by rw [Int.mul_assoc,Int.mul_assoc,← Int.mul_assoc ex q,Int.mul_comm ex q,Int.mul_assoc q ex]
   _=(ux*r)*((ex - ux)*r):=by rw [h,e2]
   _=(ux*(ex - ux))*(r*r):=by rw [Int.mul_assoc,Int.mul_assoc,← Int.mul_assoc r,Int.mul_comm r (ex - ux),Int.mul_assoc (ex - ux)]
 have hrr:0<r*r:=by
  rcases Int.lt_or_gt_of_ne hr with h|h
  ·exact Int.mul_pos_of_neg_of_neg h h
  exact Int.mul_pos h h
 have hee:0<ex*ex:=Int.mul_pos he he;constructor
 ·intro⟨h1,h2⟩;have h3:0≤(ux*(ex - ux))*(r*r):=Int.mul_nonneg (Int.mul_nonneg h1 (by omega)) (by omega);rw [← key] at h3;by_cases hq:0≤q*(r - q)
  ·exact hq
  have:(ex*ex)*(q*(r - q))<0:=Int.mul_neg_of_pos_of_neg hee (by omega);omega
 intro hq;have h3:0≤(ex*ex)*(q*(r - q)):=Int.mul_nonneg (by omega) hq;rw [key] at h3;have h4:0≤ux*(ex - ux):=by
  by_cases h4:0≤ux*(ex - ux)
  ·exact h4
  have:(ux*(ex - ux))*(r*r)<0:=Int.mul_neg_of_neg_of_pos (by omega) hrr;omega
 constructor
 ·by_cases h5:0≤ux
  ·exact h5
  have:ux*(ex - ux)<0:=Int.mul_neg_of_neg_of_pos (by omega) (by omega);omega
 by_cases h5:ux≤ex
 ·exact h5
 have:ux*(ex - ux)<0:=Int.mul_neg_of_pos_of_neg (by omega) (by omega);omega
end Go.Aw

namespace Go.Aw
theorem LG {a b:Int}(ha:0<a)(h:0≤a*b):0≤b:=by
 by_cases hb:0≤b
 ·exact hb
 have:a*b<0:=Int.mul_neg_of_pos_of_neg ha (by omega);omega
theorem aNB {ex ey ux uy:Int}(he:0<ex)(h:ex*uy=ey*ux)(h0:0≤ux)(h1:ux≤ex):(0≤ey→0≤uy∧uy≤ey)∧(ey≤0→ey≤uy∧uy≤0):=by
 have e2:ex*(ey - uy)=ey*(ex - ux):=by
  rw [Int.mul_sub,Int.mul_sub,h,Int.mul_comm ex ey]
 constructor
 ·intro hy;constructor
  ·exact LG he (by rw [h];exact Int.mul_nonneg hy h0)
  have:=LG he (show 0≤ex*(ey - uy) by rw [e2];exact Int.mul_nonneg hy (by omega));omega
 intro hy;constructor
 ·have:0≤ex*(uy - ey):=by
   have:ex*(uy - ey)=(-ey)*(ex - ux):=by
    rw [Int.neg_mul,← e2,← Int.mul_neg];congr 1;omega
   rw [this];exact Int.mul_nonneg (by omega) (by omega)
  have:=LG he this;omega
 have:0≤ex*(-uy):=by
  rw [Int.mul_neg,h,← Int.neg_mul];exact Int.mul_nonneg (by omega) h0
 have:=LG he this;omega
def N6 (e u:Int):Prop:=(if 0<e then 0 else e)≤u∧u≤(if e<0 then 0 else e)
theorem EH {e u:Int}:N6 (-e) (-u)↔N6 e u:=by
 unfold N6;split <;> split <;> split <;> split <;> omega
theorem aFg {e u:Int}(h:0<e):N6 e u↔(0≤u∧u≤e):=by
 unfold N6;split <;> split <;> omega
theorem y7 {ex ey ux uy q r:Int}(he:0<ex)(h:ex*uy=ey*ux)(h1:ex*q=ux*r)(hne:¬ (q=0∧r - q=0)):(N6 ex ux∧N6 ey uy)↔0≤q*(r - q):=by
 rw [← aLe he h1 hne,aFg he];constructor
 ·exact fun h=>h.1
 intro h2;refine⟨h2,?_⟩;obtain⟨k1,k2⟩:=aNB he h h2.1 h2.2;unfold N6;by_cases hy:0≤ey
 ·have:=k1 hy;split <;> split <;> omega
 have:=k2 (by omega);split <;> split <;> omega
theorem aEm {ex ey ux uy q r:Int}(he:¬ (ex=0∧ey=0))(h:ex*uy=ey*ux)(h1:ex*q=ux*r)(h2:ey*q=uy*r)(hne:¬ (q=0∧r - q=0)):(N6 ex ux∧N6 ey uy)↔0≤q*(r - q):=by
 by_cases a1:0<ex
 ·exact y7 a1 h h1 hne
 by_cases a2:ex<0
 ·rw [← EH (e:=ex),← EH (e:=ey)];exact y7 (by omega) (by rw [Int.neg_mul_neg,Int.neg_mul_neg,h]) (by rw [Int.neg_mul,Int.neg_mul,h1]) hne
 by_cases a3:0<ey
 ·rw [And.comm];exact y7 a3 h.symm h2 hne
 rw [← EH (e:=ex),← EH (e:=ey),And.comm];exact y7 (by omega) (by rw [Int.neg_mul_neg,Int.neg_mul_neg,h]) (by rw [Int.neg_mul,Int.neg_mul,h2]) hne
theorem once {ex ey wx wy vx vy:Int}(hd:ex*wy - ey*wx≠0)(h1:ex*vy=ey*vx)(h2:wx*vy=wy*vx):vx=0∧vy=0:=by
 constructor
 ·have:(ex*wy - ey*wx)*vx=0:=by
   rw [Int.sub_mul,Int.mul_assoc,← h2,Int.mul_right_comm ey,← h1,Int.mul_assoc,Int.mul_comm vy,Int.sub_self]
  rcases Int.mul_eq_zero.1 this with h|h
  ·exact absurd h hd
  exact h
 have:(ex*wy - ey*wx)*vy=0:=by
  rw [Int.sub_mul,Int.mul_assoc ey,h2,Int.mul_right_comm ex,h1,← Int.mul_assoc,Int.mul_right_comm ey,Int.sub_self]
 rcases Int.mul_eq_zero.1 this with h|h
 ·exact absurd h hd
 exact h
theorem para {ex ey wx wy vx vy:Int}(hw:¬ (wx=0∧wy=0))(h1:wx*ey=wy*ex)(h2:wx*vy=wy*vx):ex*vy=ey*vx:=by
 have k1:wx*(ex*vy - ey*vx)=0:=by
  rw [Int.mul_sub,← Int.mul_assoc,Int.mul_right_comm,h2,← Int.mul_assoc,h1,Int.mul_right_comm,Int.sub_self]
 have k2:wy*(ex*vy - ey*vx)=0:=by
  rw [Int.mul_sub,← Int.mul_assoc,← h1,Int.mul_left_comm wy,← h2,Int.mul_left_comm ey,Int.mul_assoc,Int.sub_self]
 by_cases h:wx=0
 ·rcases Int.mul_eq_zero.1 k2 with h'|h'
  ·exact absurd ⟨h,h'⟩ hw
  omega
 ·rcases Int.mul_eq_zero.1 k1 with h'|h'
  ·exact absurd h' h
  omega
end Go.Aw

namespace Go.Aw
def H8 (p:Int × Int):List (Int × Int)→Bool
 |[]=>false
 |q::r=>kT q p || H8 p r
def LV (s t:Sg)(out:List (Int × Int))(p:Int × Int):List (Int × Int):=if r8 p s=true∧r8 p t=true∧H8 p out=false then out++[p] else out
def QY (s t:Sg):List (Int × Int):=LV s t (LV s t (LV s t (LV s t [] s.1) s.2) t.1) t.2
theorem iX (a b:Int × Int):kT a b=true↔a=b:=by
 obtain⟨a1,a2⟩:=a;obtain⟨b1,b2⟩:=b;simp [kT]
theorem XM (n a b:Int):XN n a b=true↔N6 (b - a) (n - a):=by
 simp only [XN,N6,Bool.and_eq_true,decide_eq_true_eq];split <;> split <;> (try split) <;> (try split) <;> omega
theorem aGn {ax ay bx b2 px py wx wy c d:Int}(hne:¬ (bx - ax=0∧b2 - ay=0))(h0:(bx - ax)*(py - ay) - (b2 - ay)*(px - ax)=0)
  (hc:c=wx*(ay - py) - wy*(ax - px)) (hd:d=wx*(b2 - py) - wy*(bx - px)) (hn:¬ (c=0∧d=0)):(XN px ax bx=true∧XN py ay b2=true)↔c*d≤0:=by
 have h:(bx - ax)*(py - ay)=(b2 - ay)*(px - ax):=(by omega);have p1:=par (wx:=wx) (wy:=wy) h;have p2:=par (wx:=wy) (wy:=wx) h.symm;have q1:wx*(py - ay) - wy*(px - ax) = -c:=by
  subst hc;simp only [Int.mul_sub];omega
 have q2:wy*(px - ax) - wx*(py - ay)=c:=(by omega);have r1:wx*(b2 - ay) - wy*(bx - ax)=d - c:=by
  subst hc hd;simp only [Int.mul_sub];omega
 have r2:wy*(bx - ax) - wx*(b2 - ay) = -(d - c):=(by omega);rw [q1,r1] at p1;rw [q2,r2] at p2;have p3:(b2 - ay)*(-c)=(py - ay)*(d - c):=by
  rw [Int.mul_neg,p2,Int.mul_neg,Int.neg_neg]
 rw [XM,XM,aEm hne h p1 p3 (by omega)];have:d - c - -c=d:=(by omega);rw [this,Int.neg_mul];omega
theorem aEY (a b:Int):C8 a*C8 b≤0↔a*b≤0:=by
 unfold C8
 by_cases a1:a<0 <;> by_cases a2:0<a <;> by_cases b1:b<0 <;> by_cases b2:0<b <;> simp only [a1,a2,b1,b2,if_true,if_false] <;>
  first
  |(exfalso;omega)
  |(have:=Int.mul_pos_of_neg_of_neg a1 b1;omega)
  |(have:=Int.mul_neg_of_neg_of_pos a1 b2;omega)
  |(have:=Int.mul_neg_of_pos_of_neg a2 b1;omega)
  |(have:=Int.mul_pos a2 b2;omega)
  |(have:a=0:=by omega
    subst this;simp)
  |(have:b=0:=by omega
    subst this;simp)
theorem n8 (a b p q:Int × Int)(h:q=a∨q=b):aL a b p=(b.1 - a.1)*(p.2 - q.2) - (b.2 - a.2)*(p.1 - q.1):=by
 rcases h with rfl|rfl
 ·rfl
 have e1:p.2 - a.2=(p.2 - q.2)+(q.2 - a.2):=(by omega);have e2:p.1 - a.1=(p.1 - q.1)+(q.1 - a.1):=(by omega);have e3:=Int.mul_comm (q.1 - a.1) (q.2 - a.2);rw [aL,e1,e2,Int.mul_add,Int.mul_add];omega
theorem AE (s t:Sg)(p:Int × Int)(hp:p=t.1∨p=t.2)(hs:s.1≠s.2)(h0:aS s.1 s.2 p=0)(hn:¬ (aS t.1 t.2 s.1=0∧aS t.1 t.2 s.2=0)) :
  r8 p s=decide (aS t.1 t.2 s.1*aS t.1 t.2 s.2≤0):=by
 have k:=aGn (wx:=t.2.1 - t.1.1) (wy:=t.2.2 - t.1.2) (px:=p.1) (py:=p.2) (ax:=s.1.1) (ay:=s.1.2) (bx:=s.2.1) (b2:=s.2.2) (by
  intro h;apply hs;exact Prod.ext (by omega) (by omega)) ((kN _ _ _).1 h0) (n8 t.1 t.2 s.1 p hp) (n8 t.1 t.2 s.2 p hp) (by
  rw [kN,kN] at hn;exact hn)
 rw [Bool.eq_iff_iff,decide_eq_true_eq];unfold aS;rw [aEY,← k,r8,h0];simp
theorem EJ (s:Sg)(p:Int × Int)(h0:aS s.1 s.2 p≠0):r8 p s=false:=by
 unfold r8;simp [h0]
theorem oZ (s:Sg)(p:Int × Int)(hp:p=s.1∨p=s.2):r8 p s=true:=by
 have h0:aS s.1 s.2 p=0:=by
  rw [kN,aL];rcases hp with rfl|rfl
  ·simp
  rw [Int.mul_comm];omega
 have hb:∀ a b:Int,XN a a b=true∧XN b a b=true:=by
  intro a b;simp only [XN,Bool.and_eq_true,decide_eq_true_eq];split <;> split <;> omega
 unfold r8;rw [h0];rcases hp with rfl|rfl
 ·simp [(hb _ _).1]
 simp [(hb _ _).2]
theorem FO (s t:Sg)(p:Int × Int)(hp:p=t.1∨p=t.2)(ht:t.1≠t.2)(h1:aS t.1 t.2 s.1=0)(h2:aS t.1 t.2 s.2=0):aS s.1 s.2 p=0:=by
 rw [kN,n8 t.1 t.2 _ p hp] at h1 h2;have hw:¬ (t.2.1 - t.1.1=0∧t.2.2 - t.1.2=0):=by
  intro h;apply ht;exact Prod.ext (by omega) (by omega)
 have e1:(t.2.1 - t.1.1)*(s.2.2 - s.1.2)=(t.2.2 - t.1.2)*(s.2.1 - s.1.1):=by
  rw [show s.2.2 - s.1.2=(s.2.2 - p.2) - (s.1.2 - p.2) by omega,show s.2.1 - s.1.1=(s.2.1 - p.1) - (s.1.1 - p.1) by omega,Int.mul_sub,Int.mul_sub (t.2.2 - t.1.2)];omega
 have e2:(t.2.1 - t.1.1)*(p.2 - s.1.2)=(t.2.2 - t.1.2)*(p.1 - s.1.1):=by
  rw [show p.2 - s.1.2 = -(s.1.2 - p.2) by omega,show p.1 - s.1.1 = -(s.1.1 - p.1) by omega,Int.mul_neg,Int.mul_neg];omega
 have:=para hw e1 e2;rw [kN,aL];omega
theorem A7 (s t:Sg)(ht:t.1≠t.2)(h:aS t.1 t.2 s.1=0∧aS t.1 t.2 s.2=0):aS s.1 s.2 t.1=0∧aS s.1 s.2 t.2=0 :=
 ⟨FO s t _ (.inl rfl) ht h.1 h.2,FO s t _ (.inr rfl) ht h.1 h.2⟩
theorem vC (s t:Sg)(p q:Int × Int)(hp:p=s.1∨p=s.2)(hq:q=t.1∨q=t.2)(h1:aS t.1 t.2 p=0)(h2:aS s.1 s.2 q=0)(hn:¬ (aS s.1 s.2 t.1=0∧aS s.1 s.2 t.2=0)):p=q:=by
 rw [kN,n8 t.1 t.2 _ q hq] at h1;have h2':=h2;rw [kN,n8 s.1 s.2 _ p hp] at h2;have hd:(s.2.1 - s.1.1)*(t.2.2 - t.1.2) - (s.2.2 - s.1.2)*(t.2.1 - t.1.1)≠0:=by
  intro hd;apply hn;have e0:aL s.1 s.2 t.2=aL s.1 s.2 t.1:=by
   rw [aL,aL,show t.2.2 - s.1.2=(t.2.2 - t.1.2)+(t.1.2 - s.1.2) by omega,show t.2.1 - s.1.1=(t.2.1 - t.1.1)+(t.1.1 - s.1.1) by omega,Int.mul_add,Int.mul_add];omega
  rw [kN] at h2';rw [kN,kN,e0];rcases hq with rfl|rfl
  ·exact⟨h2',h2'⟩
  rw [← e0];exact⟨h2',h2'⟩
 have e2:(t.2.1 - t.1.1)*(q.2 - p.2)=(t.2.2 - t.1.2)*(q.1 - p.1):=by
  rw [show q.2 - p.2 = -(p.2 - q.2) by omega,show q.1 - p.1 = -(p.1 - q.1) by omega,Int.mul_neg,Int.mul_neg];omega
 have:=once hd (by omega) e2;exact Prod.ext (by omega) (by omega)
def GN (s t:Sg):Int:=match QY s t with
 |[]=>if aS s.1 s.2 t.1*aS s.1 s.2 t.2<0∧aS t.1 t.2 s.1*aS t.1 t.2 s.2<0 then 3 else 0
 |[p]=>if (kT p s.1=true∨kT p s.2=true)∧(kT p t.1=true∨kT p t.2=true) then 1 else 2
 |_::_::_=>4
theorem iD (a b:Int × Int):kT a b=false↔a≠b:=by
 rw [ne_eq,← iX];simp
theorem aCu (s t:Sg)(hs:s.1≠s.2)(ht:t.1≠t.2)(hn:¬ (aS s.1 s.2 t.1=0∧aS s.1 s.2 t.2=0)):fR s t=GN s t:=by
 have hn':¬ (aS t.1 t.2 s.1=0∧aS t.1 t.2 s.2=0):=fun h=>hn (A7 s t ht h);have b3:=fun h0=>AE s t t.1 (.inl rfl) hs h0 hn';have b4:=fun h0=>AE s t t.2 (.inr rfl) hs h0 hn';have b1:=fun h0=>AE t s s.1 (.inl rfl) ht h0 hn;have b2:=fun h0=>AE t s s.2 (.inr rfl) ht h0 hn;have f3:=EJ s t.1;have f4:=EJ s t.2;have f1:=EJ t s.1;have f2:=EJ t s.2;have o13:=vC s t s.1 t.1 (.inl rfl) (.inl rfl);have o14:=vC s t s.1 t.2 (.inl rfl) (.inr rfl);have o23:=vC s t s.2 t.1 (.inr rfl) (.inl rfl);have o24:=vC s t s.2 t.2 (.inr rfl) (.inr rfl);have g1:=oZ s s.1 (.inl rfl);have g2:=oZ s s.2 (.inr rfl);have g3:=oZ t t.1 (.inl rfl);have g4:=oZ t t.2 (.inr rfl);have z1:aS s.1 s.2 s.1=0:=(by rw [kN,aL];simp);have z2:aS s.1 s.2 s.2=0:=(by rw [kN,aL,Int.mul_comm];omega);have z3:aS t.1 t.2 t.1=0:=(by rw [kN,aL];simp);have z4:aS t.1 t.2 t.2=0:=(by rw [kN,aL,Int.mul_comm];omega);have rf:∀ p,kT p p=true:=fun p=>(iX p p).2 rfl;have n1:aS s.1 s.2 t.1≠0→kT s.1 t.1=false∧kT s.2 t.1=false∧kT t.1 s.1=false∧kT t.1 s.2=false:=fun h=>by
  rw [iD,iD,iD,iD];exact⟨fun e=>h (e▸z1),fun e=>h (by rw [← e];exact z2),fun e=>h (e▸z1),fun e=>h (by rw [e];exact z2)⟩
 have n2:aS s.1 s.2 t.2≠0→kT s.1 t.2=false∧kT s.2 t.2=false∧kT t.2 s.1=false∧kT t.2 s.2=false:=fun h=>by
  rw [iD,iD,iD,iD];exact⟨fun e=>h (e▸z1),fun e=>h (by rw [← e];exact z2),fun e=>h (e▸z1),fun e=>h (by rw [e];exact z2)⟩
 have n3:aS t.1 t.2 s.1≠0→kT s.1 t.1=false∧kT s.1 t.2=false∧kT t.1 s.1=false∧kT t.2 s.1=false:=fun h=>by
  rw [iD,iD,iD,iD];exact⟨fun e=>h (by rw [e];exact z3),fun e=>h (by rw [e];exact z4),fun e=>h (by rw [← e];exact z3),fun e=>h (by rw [← e];exact z4)⟩
 have n4:aS t.1 t.2 s.2≠0→kT s.2 t.1=false∧kT s.2 t.2=false∧kT t.1 s.2=false∧kT t.2 s.2=false:=fun h=>by
  rw [iD,iD,iD,iD];exact⟨fun e=>h (by rw [e];exact z3),fun e=>h (by rw [e];exact z4),fun e=>h (by rw [← e];exact z3),fun e=>h (by rw [← e];exact z4)⟩
 have o13':aS t.1 t.2 s.1=0→aS s.1 s.2 t.1=0→kT s.1 t.1=true∧kT t.1 s.1=true:=fun h h'=>by
  have:=o13 h h' hn;rw [iX,iX];exact⟨this,this.symm⟩
 have o14':aS t.1 t.2 s.1=0→aS s.1 s.2 t.2=0→kT s.1 t.2=true∧kT t.2 s.1=true:=fun h h'=>by
  have:=o14 h h' hn;rw [iX,iX];exact⟨this,this.symm⟩
 have o23':aS t.1 t.2 s.2=0→aS s.1 s.2 t.1=0→kT s.2 t.1=true∧kT t.1 s.2=true:=fun h h'=>by
  have:=o23 h h' hn;rw [iX,iX];exact⟨this,this.symm⟩
 have o24':aS t.1 t.2 s.2=0→aS s.1 s.2 t.2=0→kT s.2 t.2=true∧kT t.2 s.2=true:=fun h h'=>by
  have:=o24 h h' hn;rw [iX,iX];exact⟨this,this.symm⟩
 clear o13 o14 o23 o24 z1 z2 z3 z4;unfold fR;rw [if_neg hn];generalize hA:aS s.1 s.2 t.1=A at *;generalize hB:aS s.1 s.2 t.2=B at *;generalize hC:aS t.1 t.2 s.1=C at *;generalize hD:aS t.1 t.2 s.2=D at *;unfold GN QY;rw [hA,hB,hC,hD];by_cases h:0<A*B∨0<C*D
 ·have p3:r8 t.1 s=false:=by
   by_cases h0:A=0
   ·rw [b3 h0,decide_eq_false_iff_not];subst h0;simp at h;omega
   exact f3 h0
  have p4:r8 t.2 s=false:=by
   by_cases h0:B=0
   ·rw [b4 h0,decide_eq_false_iff_not];subst h0;simp at h;omega
   exact f4 h0
  have p1:r8 s.1 t=false:=by
   by_cases h0:C=0
   ·rw [b1 h0,decide_eq_false_iff_not];subst h0;simp at h;omega
   exact f1 h0
  have p2:r8 s.2 t=false:=by
   by_cases h0:D=0
   ·rw [b2 h0,decide_eq_false_iff_not];subst h0;simp at h;omega
   exact f2 h0
  unfold RN;rw [if_pos h];simp only [LV,p1,p2,p3,p4,g1,g2,g3,g4,Bool.false_eq_true,false_and,and_false,if_false];rw [if_neg];omega
 have hAB:A*B≤0:=(by omega);have hCD:C*D≤0:=(by omega);simp only [hAB,hCD,decide_true] at b1 b2 b3 b4;unfold RN;rw [if_neg h];by_cases a0:A=0 <;> by_cases b0:B=0 <;> by_cases c0:C=0 <;> by_cases d0:D=0 <;> simp only [a0,b0,c0,d0,not_true,not_false_eq_true,true_implies,false_implies,ne_eq,and_self,and_true,true_and,and_false,false_and] at hn hn' b1 b2 b3 b4 f1 f2 f3 f4 n1 n2 n3 n4 o13' o14' o23' o24'
 all_goals (simp only [LV,H8,rf,g1,g2,g3,g4, *,or_self,or_true,true_or,and_self,if_true,Bool.false_eq_true,Bool.or_false,Bool.or_self,Bool.or_true,and_true,true_and,false_and,and_false,if_false,List.nil_append,or_false,false_or,Bool.true_eq_false])
 all_goals (try (simp only [rf, *,or_self,or_true,true_or,and_self,if_true,Bool.false_eq_true,and_true,true_and,false_and,and_false,if_false,or_false,false_or];done))
 have nAB:A*B≠0:=Int.mul_ne_zero a0 b0;have nCD:C*D≠0:=Int.mul_ne_zero c0 d0;rw [if_pos ⟨by omega,by omega⟩]
def key (p:Int × Int):Int:=p.1*100000+p.2
theorem gJ {a b:Int × Int}(ha:aI a=true)(hb:aI b=true):jK a b=gB (key a) (key b):=by
 simp only [aI,Bool.and_eq_true,decide_eq_true_eq] at ha hb;obtain⟨a1,a2⟩:=a;obtain⟨b1,b2⟩:=b;simp only at ha hb;unfold jK ZW gB key;simp only;by_cases h1:a1<b1
 ·rw [if_pos h1,if_pos (show a1*100000+a2<b1*100000+b2 by omega)];rfl
 by_cases h2:b1<a1
 ·rw [if_neg h1,if_pos h2,if_neg (show ¬ (a1*100000+a2<b1*100000+b2) by omega),if_pos (show b1*100000+b2<a1*100000+a2 by omega)];rfl
 rw [if_neg h1,if_neg h2,if_pos rfl];have:a1=b1:=(by omega);subst this;by_cases h3:a2<b2
 ·rw [if_pos h3,if_pos (by omega)]
 rw [if_neg h3,if_neg (show ¬ (a1*100000+a2<a1*100000+b2) by omega)];by_cases h4:b2<a2
 ·rw [if_pos h4,if_pos (by omega)]
 rw [if_neg h4,if_neg (by omega)]
theorem WW {a b:Int × Int}(ha:aI a=true)(hb:aI b=true):kT a b=true↔key a=key b:=by
 simp only [aI,Bool.and_eq_true,decide_eq_true_eq] at ha hb;simp only [kT,Bool.and_eq_true,decide_eq_true_eq,key,and_true];omega
theorem H3 {a b:Int × Int}(ha:aI a=true)(hb:aI b=true):kT a b=false↔key a≠key b:=by
 rw [← Bool.not_eq_true,WW ha hb]
theorem aI6 (a b:Int):gB a b≤0↔a≤b:=by unfold gB;split <;> (try split) <;> omega
theorem UP (a b:Int):gB a b<0↔a<b:=by unfold gB;split <;> (try split) <;> omega
theorem TM (a b:Int):0<gB a b↔b<a:=by unfold gB;split <;> (try split) <;> omega
theorem zD (a b:Int):aEX (gB a b)=if a<b then 4 else if a=b then 1 else 0:=by
 unfold aEX gB;split
 ·rfl
 split
 ·rw [if_neg (by omega),if_neg (by omega),if_neg (by omega)]
 rw [if_neg (by omega),if_pos rfl,if_pos (by omega)]
theorem nH {s:Sg}(h:dR s=true):aI s.1=true∧aI s.2=true∧s.1≠s.2:=by
 simp only [dR,Bool.and_eq_true,Bool.not_eq_true'] at h;exact⟨h.1.1,h.1.2,(iD _ _).1 h.2⟩
def kF (p1 p2 p3 p4 e13 e14 e23 e24:Bool):Int :=
 match p1,p2,p3&&!(p1&&e13)&&!(p2&&e23),p4&&!(p1&&e14)&&!(p2&&e24) with
 |false,false,false,false=>0
 |true,false,false,false=>if e13 || e14 then 1 else 2
 |false,true,false,false=>if e23 || e24 then 1 else 2
 |false,false,true,false=>if e13 || e23 then 1 else 2
 |false,false,false,true=>if e14 || e24 then 1 else 2
 |_,_,_,_=>4
set_option maxHeartbeats 2000000 in
theorem aL8 {k1 k2 k3 k4 a1 a2 b1 b2:Int}(ha:(k1<k2∧a1=k1∧a2=k2)∨(k2<k1∧a1=k2∧a2=k1))(hb:(k3<k4∧b1=k3∧b2=k4)∨(k4<k3∧b1=k4∧b2=k3)) :
  (if (if a1<b1 then b1 else a1)<(if b2<a2 then b2 else a2) then (4:Int) else if (if a1<b1 then b1 else a1)=(if b2<a2 then b2 else a2) then 1 else 0)
   = kF (decide (b1≤k1∧k1≤b2)) (decide (b1≤k2∧k2≤b2)) (decide (a1≤k3∧k3≤a2)) (decide (a1≤k4∧k4≤a2)) (decide (k1=k3)) (decide (k1=k4)) (decide (k2=k3)) (decide (k2=k4)):=by
 rcases ha with ⟨a,xa,ya⟩|⟨a,xa,ya⟩ <;> rcases hb with ⟨b,xb,yb⟩|⟨b,xb,yb⟩ <;>
 by_cases q1:b1≤k1∧k1≤b2 <;> by_cases q2:b1≤k2∧k2≤b2 <;> by_cases q3:a1≤k3∧k3≤a2 <;> by_cases q4:a1≤k4∧k4≤a2 <;> (try (exfalso;omega)) <;>
  by_cases u1:k1=k3 <;> (try (exfalso;omega)) <;> by_cases u2:k1=k4 <;> (try (exfalso;omega)) <;> by_cases u3:k2=k3 <;> (try (exfalso;omega)) <;> by_cases u4:k2=k4 <;> (try (exfalso;omega)) <;>
  (first|rw [decide_eq_true q1]|rw [decide_eq_false q1]) <;> (first|rw [decide_eq_true q2]|rw [decide_eq_false q2]) <;> (first|rw [decide_eq_true q3]|rw [decide_eq_false q3]) <;> (first|rw [decide_eq_true q4]|rw [decide_eq_false q4]) <;>
  (first|rw [decide_eq_true u1]|rw [decide_eq_false u1]) <;> (first|rw [decide_eq_true u2]|rw [decide_eq_false u2]) <;> (first|rw [decide_eq_true u3]|rw [decide_eq_false u3]) <;> (first|rw [decide_eq_true u4]|rw [decide_eq_false u4]) <;>
  simp only [kF,Bool.and_true,Bool.not_true,Bool.and_false,Bool.not_false,Bool.or_true,Bool.or_false,Bool.true_or,if_true,Bool.false_eq_true,if_false,Bool.true_and,Bool.false_and] <;> split <;> split <;> (try split) <;> (try split) <;> omega
theorem pS (a b:Int × Int):kT a b=kT b a:=by
 rw [Bool.eq_iff_iff,iX,iX];exact eq_comm
set_option maxHeartbeats 2000000 in
theorem aBc (s t:Sg)(h:aS s.1 s.2 t.1=0)(n12:kT s.1 s.2=false)(n34:kT t.1 t.2=false) :
  GN s t=kF (r8 s.1 t) (r8 s.2 t) (r8 t.1 s) (r8 t.2 s) (kT s.1 t.1) (kT s.1 t.2) (kT s.2 t.1) (kT s.2 t.2):=by
 have g1:=oZ s s.1 (.inl rfl);have g2:=oZ s s.2 (.inr rfl);have g3:=oZ t t.1 (.inl rfl);have g4:=oZ t t.2 (.inr rfl);have rf:∀ p,kT p p=true:=fun p=>(iX p p).2 rfl;have n21:kT s.2 s.1=false:=(by rw [pS];exact n12);have n43:kT t.2 t.1=false:=(by rw [pS];exact n34);have c1:=pS t.1 s.1;have c2:=pS t.1 s.2;have c3:=pS t.2 s.1;have c4:=pS t.2 s.2;unfold GN QY;simp only [h,LV,g1,g2,g3,g4,true_and];generalize r8 s.1 t=p1;generalize r8 s.2 t=p2;generalize r8 t.1 s=p3;generalize r8 t.2 s=p4;generalize he13:kT s.1 t.1=e13 at *;generalize he14:kT s.1 t.2=e14 at *;generalize he23:kT s.2 t.1=e23 at *;generalize he24:kT s.2 t.2=e24 at *;clear g1 g2 g3 g4 h;generalize s.1=P1 at *;generalize s.2=P2 at *;generalize t.1=P3 at *;generalize t.2=P4 at *;cases p1 <;> cases p2 <;> cases p3 <;> cases p4 <;> simp only [H8,rf,n12,n21,n34,n43,he13,he14,he23,he24,c1,c2,c3,c4,kF,Bool.false_eq_true,false_and,and_false,and_self,and_true,true_and,if_true,if_false,List.nil_append,Bool.or_false,Bool.false_or,Bool.true_and,Bool.false_and,or_true,true_or,or_false,false_or,Int.zero_mul,Int.lt_irrefl,Bool.not_false,Bool.or_true,Bool.true_or]
 all_goals (cases e13 <;> cases e14 <;> cases e23 <;> cases e24 <;> simp [H8,rf,n12,n21,n34,n43,he13,he14,he23,he24,c1,c2,c3,c4,kF])
theorem aCI (s t:Sg)(hs:dR s=true)(ht:dR t=true)(h:aS s.1 s.2 t.1=0∧aS s.1 s.2 t.2=0):fR s t=GN s t:=by
 obtain⟨r1,r2,ns⟩:=nH hs;obtain⟨r3,r4,nt⟩:=nH ht;have h':=A7 t s ns h;have n12:key s.1≠key s.2:=(H3 r1 r2).1 ((iD _ _).2 ns);have n34:key t.1≠key t.2:=(H3 r3 r4).1 ((iD _ _).2 nt);have p3:r8 t.1 s=I5 t.1 s:=(by rw [← JP _ _ hs,onS,h.1];simp);have p4:r8 t.2 s=I5 t.2 s:=(by rw [← JP _ _ hs,onS,h.2];simp);have p1:r8 s.1 t=I5 s.1 t:=(by rw [← JP _ _ ht,onS,h'.1];simp);have p2:r8 s.2 t=I5 s.2 t:=(by rw [← JP _ _ ht,onS,h'.2];simp);have es:∃ a,aI (bD s).1=true∧aI (bD s).2=true∧((key s.1<key s.2∧key (bD s).1=key s.1∧key (bD s).2=key s.2)∨(key s.2<key s.1∧key (bD s).1=key s.2∧key (bD s).2=key s.1))∧a=true:=by
  refine⟨true,?_⟩;unfold bD;simp only [gJ r1 r2,TM];by_cases hk:key s.2<key s.1
  ·rw [if_pos hk];exact⟨r2,r1,.inr ⟨hk,rfl,rfl⟩,trivial⟩
  rw [if_neg hk];exact⟨r1,r2,.inl ⟨by omega,rfl,rfl⟩,trivial⟩
 have et:∃ a,aI (bD t).1=true∧aI (bD t).2=true∧((key t.1<key t.2∧key (bD t).1=key t.1∧key (bD t).2=key t.2)∨(key t.2<key t.1∧key (bD t).1=key t.2∧key (bD t).2=key t.1))∧a=true:=by
  refine⟨true,?_⟩;unfold bD;simp only [gJ r3 r4,TM];by_cases hk:key t.2<key t.1
  ·rw [if_pos hk];exact⟨r4,r3,.inr ⟨hk,rfl,rfl⟩,trivial⟩
  rw [if_neg hk];exact⟨r3,r4,.inl ⟨by omega,rfl,rfl⟩,trivial⟩
 obtain⟨_,ra1,ra2,ha,_⟩:=es;obtain⟨_,rb1,rb2,hb,_⟩:=et;rw [aBc s t h.1 ((iD _ _).2 ns) ((iD _ _).2 nt),p1,p2,p3,p4];unfold fR;rw [if_pos h];have hl:aI (GM s t)=true∧key (GM s t)=(if key (bD s).1<key (bD t).1 then key (bD t).1 else key (bD s).1):=by
  unfold GM;simp only [gJ ra1 rb1,UP];by_cases hk:key (bD s).1<key (bD t).1
  ·rw [if_pos hk,if_pos hk];exact⟨rb1,rfl⟩
  rw [if_neg hk,if_neg hk];exact⟨ra1,rfl⟩
 have hh:aI (sJ s t)=true∧key (sJ s t)=(if key (bD t).2<key (bD s).2 then key (bD t).2 else key (bD s).2):=by
  unfold sJ;simp only [gJ rb2 ra2,UP];by_cases hk:key (bD t).2<key (bD s).2
  ·rw [if_pos hk,if_pos hk];exact⟨rb2,rfl⟩
  rw [if_neg hk,if_neg hk];exact⟨ra2,rfl⟩
 have hbet:∀ (p:Int × Int) (g:Sg),aI p=true→aI (bD g).1=true→aI (bD g).2=true→I5 p g=decide (key (bD g).1≤key p∧key p≤key (bD g).2):=by
  intro p g hp h1 h2;unfold I5;rw [gJ h1 hp,gJ hp h2,Bool.eq_iff_iff];simp only [Bool.and_eq_true,decide_eq_true_eq,aI6]
 have heq:∀ a b:Int × Int,aI a=true→aI b=true→kT a b=decide (key a=key b):=by
  intro a b h1 h2;rw [Bool.eq_iff_iff,decide_eq_true_eq,WW h1 h2]
 rw [gJ hl.1 hh.1,zD,hl.2,hh.2,aL8 ha hb,hbet _ _ r1 rb1 rb2,hbet _ _ r2 rb1 rb2,hbet _ _ r3 ra1 ra2,hbet _ _ r4 ra1 ra2,heq _ _ r1 r3,heq _ _ r1 r4,heq _ _ r2 r3,heq _ _ r2 r4]
theorem aED (s t:Sg)(hs:dR s=true)(ht:dR t=true):fR s t=GN s t:=by
 by_cases h:aS s.1 s.2 t.1=0∧aS s.1 s.2 t.2=0
 ·exact aCI s t hs ht h
 exact aCu s t (nH hs).2.2 (nH ht).2.2 h
end Go.Aw

noncomputable section
namespace Go.Aw
theorem bW {ρ:Nat→Nat}{n sz:Nat}{wr g:Bool}{cs cs':List Value}(hg:dL cs=true)(e:cs'=cs):bT ρ n (.cells wr g sz cs) (.cells wr g sz cs'):=by
 subst e;exact aG hg
theorem CO {α:Type}(fl:α→List Value)(l m:List α):flat fl (l++m)=flat fl l++flat fl m:=by
 induction l with
 |nil=>rfl
 |cons a r ih=>simp only [List.cons_append,flat,ih,List.append_assoc]
theorem qU {α:Type}(E:El α){l:List α}{e:Option Int}{h:Heap}{q nx:Nat}(hl:0<l.length)(hq:look h q=some (.cells true false E.sz (flat E.fl l))):Yields E l e (kR e (.slice (some ⟨q,0,none⟩) l.length l.length)) h nx:=by
 cases l with
 |nil=>cases hl
 |cons a r=>exact⟨q,rfl,hq⟩
end Go.Aw
end

noncomputable section
namespace Go.Aw
open Go.RowKit
section
variable {α β:Type}(E:El α)
def vOf (l:List α)(e:Option Int):Value:=match l with
 |[]=>kR e (.slice none 0 0)
 |a::r=>kR e (.slice (some ⟨0,0,none⟩) (a::r).length (a::r).length)
def hOf (l:List α):Heap:=match l with
 |[]=>[]
 |a::r=>[(0,.cells true false E.sz (flat E.fl (a::r)))]
def mOf (l:List α):Nat:=match l with
 |[]=>0
 |_::_=>1
theorem RG {l:List α}{e:Option Int}{v:Value}{h:Heap}{nx:Nat}(hv:Yields E l e v h nx):L5 (vOf l e) (hOf E l) (mOf l) v h nx:=by
 cases l with
 |nil =>
  rw [show v=_ from hv];exact lJ (JW e)
 |cons a r =>
  obtain⟨q,rfl,hq⟩:=hv;refine⟨fun _=>q,⟨fun t u hu=>?_,fun k o hk=>?_,fun k k' o o' hk hk' _=>?_,fun k hk=>absurd hk (Nat.not_lt_zero k),Nat.zero_le _⟩⟩
  ·rw [aB] at hu;split at hu
   ·rename_i hb;injection hu with hu;subst hu;exact⟨by rw [aB,hb];show _=some (fL (fun _=>q) (kR e (.slice (some ⟨0,0,none⟩) (a::r).length (a::r).length)));rw [J4],aB5 e _ _⟩
   exact bZ hu
  ·rw [show hOf E (a::r)=[(0,.cells true false E.sz (flat E.fl (a::r)))] from rfl,aB] at hk;split at hk
   ·rename_i hb;injection hk with hk;subst hk;exact⟨by rw [← beq_true hb];exact Nat.one_pos,_,hq,aG (aC E _)⟩
   exact bZ hk
  rw [show hOf E (a::r)=[(0,.cells true false E.sz (flat E.fl (a::r)))] from rfl,aB] at hk hk';split at hk
  ·rename_i hb1;split at hk'
   ·rename_i hb2;exact (beq_true hb1).symm.trans (beq_true hb2)
   exact bZ hk'
  exact bZ hk
def LR (l:List α)(e:Option Int)(h:Heap)(nx:Nat)(K:KE):Prop:=match l with
 |[]=>K (kR e (.slice none 0 0)) h nx
 |a::r=>K (kR e (.slice (some ⟨nx,0,none⟩) (a::r).length (a::r).length)) (cU h nx (.cells true false E.sz (flat E.fl (a::r)))) (nx+1)
theorem aEU {l:List α}{e:Option Int}{h:Heap}{nx:Nat}{K:KE}(hk:LR E l e h nx K):K (fL (fun k=>nx+k) (vOf l e)) (app (oP nx (hOf E l)) (rZ (hOf E l) h)) (nx+mOf l):=by
 cases l with
 |nil =>
  show K (fL (fun k=>nx+k) (kR e (.slice none 0 0))) (app [] h) (nx+0);rw [iQ (JW e)];exact hk
 |cons a r =>
  have hm:(flat E.fl (a::r)).map (bJ (fun k=>nx+k))=flat E.fl (a::r):=a8 (aC E _);show K (fL (fun k=>nx+k) (kR e (.slice (some ⟨0,0,none⟩) (a::r).length (a::r).length))) (app [(nx+0,.cells true false E.sz ((flat E.fl (a::r)).map (bJ (fun k=>nx+k))))] h) (nx+1);rw [J4,hm];exact hk
theorem aA7 (l:List α):gH (hOf E l)=true:=by cases l <;> rfl
def yOf (T:List Value→Heap→Nat→List α→Option Int→Prop):XF:=xOf fun args0 h0 n0 v1 h1 m=>∃ l e,T args0 h0 n0 l e∧v1=vOf l e∧h1=hOf E l∧m=mOf l
theorem LB {P:Program}{C:VC}{f:Nat}{T:List Value→Heap→Nat→List α→Option Int→Prop}(hC:bC P C)(hT:∀ args0 h0 n0 l e,T args0 h0 n0 l e→C f args0 h0 n0 (Yields E l e)):dJ P f (yOf E T) :=
 jD hC fun args0 h0 n0 v1 h1 m ⟨l,e,ht,hv,hh,hm⟩=>by
  subst hv hh hm;exact⟨aA7 E l,_,hT _ _ _ _ _ ht,fun v h nx hq=>RG E hq⟩
theorem AG {T:List Value→Heap→Nat→List α→Option Int→Prop}{args0:List Value}{h0:Heap}{n0:Nat}{l:List α}{e:Option Int}{args:List Value}{h:Heap}{nx:Nat}{K:KE}(ht:T args0 h0 n0 l e)(hi:In args0 h0 n0 args h nx)(hk:LR E l e h nx K):yOf E T args h nx K :=
 ⟨args0,h0,n0,_,_,_,⟨l,e,ht,rfl,rfl,rfl⟩,hi,aEU E hk⟩
end
section
variable {α:Type}(E:El α)
theorem aAI {a0 b0 a b:Value}{o1 o2:bH}{h:Heap}{nx n1 c1 n2 c2:Nat}(ha0:a0=.slice (some ⟨0,0,none⟩) n1 c1)(hb0:b0=.slice (some ⟨0,0,none⟩) n2 c2)
  (h1:In [a0] [(0,o1)] 1 [a] h nx) (h2:In [b0] [(0,o2)] 1 [b] h nx) (g1:∃ sz cs,o1=.cells false true sz cs∧dL cs=true) (g2:∃ sz cs,o2=.cells false true sz cs∧dL cs=true) :
  In [a0,.slice (some ⟨1,0,none⟩) n2 c2] [(0,o1),(1,o2)] 2 [a,b] h nx:=by
 subst ha0 hb0;obtain⟨s1,cs1,rfl,gc1⟩:=g1;obtain⟨s2,cs2,rfl,gc2⟩:=g2;intro ι B w H hs;obtain⟨ι1,e1,k1,R1⟩:=h1 ι B w H (fun v hv=>hs v (by cases hv with|head=>exact .head _|tail _ hm=>cases hm));obtain⟨ι2,e2,k2,R2⟩:=h2 ι B w H (fun v hv=>hs v (by cases hv with|head=>exact .tail _ (.head _)|tail _ hm=>cases hm));simp only [List.map_cons,List.map_nil,List.cons.injEq,and_true] at e1 e2;have q1:=R1.obj 0 _ rfl;have q2:=R2.obj 0 _ rfl;have kk1:=k1 _ (.head _);have kk2:=k2 _ (.head _);refine⟨fun k=>if k=0 then ι1 0 else ι2 0,?_,?_,⟨?_,?_,?_,Nat.le_refl _,?_⟩⟩
 ·simp only [List.map_cons,List.map_nil,e1,e2];rfl
 ·intro v hv;cases hv with
  |head=>exact⟨show (0:Nat)<2 by decide,kk1.2⟩
  |tail _ hm =>
   cases hm with
   |head=>exact⟨show (1:Nat)<2 by decide,kk2.2⟩
   |tail _ hm=>cases hm
 ·intro k o hk;have key:∀ {ι:Nat→Loc} {sz:Nat} {cs:List Value} {loc:Loc} (ι':Nat→Loc),dL cs=true→kI ι w.heap.size w (.cells false true sz cs) loc→kI ι' w.heap.size w (.cells false true sz cs) loc:=by
   intro ι sz cs loc ι' hg ho;cases loc with
   |nil p=>exact ho
   |lay b o e =>
    obtain⟨x1,x2,x3⟩:=ho;refine⟨x1,x2,fun i v hv=>?_⟩;rw [x3 i v hv,nU (aT hg (List.mem_of_getElem? hv)),nU (aT hg (List.mem_of_getElem? hv))]
  rw [aB] at hk;split at hk
  ·rename_i hb;injection hk with hk;subst hk;rw [← beq_true hb];exact key _ gc1 q1
  rw [aB] at hk;split at hk
  ·rename_i hb;injection hk with hk;subst hk;rw [← beq_true hb];exact key _ gc2 q2
  exact bZ hk
 ·intro k k' o o' hk hk' hne hal b hb;exfalso;rw [aB] at hk;split at hk
  ·injection hk with hk;subst hk;cases hal
  rw [aB] at hk;split at hk
  ·injection hk with hk;subst hk;cases hal
  exact bZ hk
 ·intro k o hk;rw [aB] at hk;split at hk
  ·rename_i hb;rw [← beq_true hb];decide
  rw [aB] at hk;split at hk
  ·rename_i hb;rw [← beq_true hb];decide
  exact bZ hk
 intro k o hk;rw [aB] at hk;split at hk
 ·injection hk with hk;subst hk;exact fun v hv=>bY (aT gc1 hv)
 rw [aB] at hk;split at hk
 ·injection hk with hk;subst hk;exact fun v hv=>bY (aT gc2 hv)
 exact bZ hk
theorem aHH {h:Heap}{nx:Nat}{v:Value}{l:List α}(hl:oM E h v l):∃ c,In [.slice (some ⟨0,0,none⟩) l.length c] [(0,.cells false true E.sz (flat E.fl l))] 1 [v] h nx:=by
 unfold oM at hl;split at hl
 ·rename_i n c;obtain⟨rfl,rfl,rfl⟩:=hl;exact⟨0,T5 rfl true E.sz E.pos⟩
 ·rename_i k o n c;obtain⟨rfl,wr,g,sz,cs,hk,hcs⟩:=hl;exact⟨c,aBV rfl hk hcs (aC E l) true E.sz E.pos⟩
 exact hl.elim
end
theorem nT {args0:List Value}{h0:Heap}{n0:Nat}{args:List Value}{h:Heap}{nx:Nat}(ρ:Nat→Nat)(ha:args=args0.map (fL ρ))(hn:∀ v∈args0,x6 n0 v)
  (ho:∀ k o,look h0 k=some o→k<n0∧∃ g sz cs0,o=.cells false g sz cs0∧sz≠0∧(g=true→dL cs0=true)∧(∀ v∈cs0,CC n0 v)∧∃ wr g' sz' cs,look h (ρ k)=some (.cells wr g' sz' cs)∧cs.take cs0.length=cs0.map (bJ ρ)) :
  In args0 h0 n0 args h nx:=by
 intro ι B w H hs;subst ha;have hsc:∀ v∈args0,eX ι nx (fL ρ v):=fun v hv=>hs _ (List.mem_map.2 ⟨v,hv,rfl⟩);refine⟨fun k=>ι (ρ k),?_,fun v hv=>DM (hsc v hv) (hn v hv),⟨fun k o hk=>?_,fun k k' o o' hk hk' hne ha b hb=>?_,fun k o hk=>(ho k o hk).1,Nat.le_refl _,fun k o hk=>?_⟩⟩
 ·rw [List.map_map];exact List.map_congr_left fun v hv=>E3 (hsc v hv)
 ·obtain⟨_,g,sz,cs0,rfl,hz,hg,hm,wr,g',sz',cs,hl,hc⟩:=ho k o hk;have hob:=H.obj _ _ hl;have hso:=H.sc _ _ hl;cases hι:ι (ρ k) with
  |nil p =>
   rw [hι] at hob;have h0:cs=[]:=(by cases wr <;> exact hob.1);subst h0;have:cs0=[]:=by
    cases cs0 with
    |nil=>rfl
    |cons a r=>simp at hc
   subst this;exact⟨rfl,fun h=>h.elim (fun h=>absurd h hz) (fun h=>by cases h)⟩
  |lay b off e =>
   have hlt:b<w.heap.size:=hob.lt (by rw [hι];rfl);refine⟨hlt,hg,fun i v hv=>?_⟩;have h1:(cs.take cs0.length)[i]? = some (bJ ρ v):=(by rw [hc,List.getElem?_map,hv];rfl);have hi:i<cs0.length:=(List.getElem?_eq_some_iff.1 hv).1;rw [List.getElem?_take,if_pos hi] at h1;obtain⟨b2,off2,e2,hι2,hcell⟩:=H.cell hl h1;rw [hι] at hι2;injection hι2 with i1 i2 i3;subst i1;subst i2;rw [hcell];congr 1;exact iS (hso _ (List.mem_of_getElem? h1))
 ·obtain⟨_,g,sz,cs0,rfl,_⟩:=ho k o hk;cases ha
 obtain⟨_,g,sz,cs0,rfl,hz,hg,hm,wr,g',sz',cs,hl,hc⟩:=ho k o hk;intro v hv;have hso:=H.sc _ _ hl;have hmem:bJ ρ v∈cs:=by
  have:bJ ρ v∈cs.take cs0.length:=(by rw [hc];exact List.mem_map.2 ⟨v,hv,rfl⟩);exact List.mem_of_mem_take this
 exact o9 (hso _ hmem) (hm v hv)
structure oJ where
 f:Nat
 args:List Value
 h0:Heap
 n0:Nat
 v1:Value
 h1:Heap
 m:Nat
def M5:List Value→List Value→Bool
 |[],[]=>true
 |a::r,b::s=>OM a b&&M5 r s
 |_,_=>false
theorem KZ:∀ {l m:List Value},M5 l m=true→l=m
 |[],[],_=>rfl
 |[],_::_,h=>by cases h
 |_::_,[],h=>by cases h
 |a::r,b::s,h=>by
  simp only [M5,Bool.and_eq_true] at h;rw [G8 h.1,KZ h.2]
def aEg (n:Nat):List Value→Bool
 |[]=>true
 |v::r=>aDJ n v&&aEg n r
theorem X3 {n:Nat}:∀ {l:List Value},aEg n l=true→∀ v∈l,x6 n v
 |[],_,v,hv=>by cases hv
 |x::r,h,v,hv=>by
  simp only [aEg,Bool.and_eq_true] at h;cases hv with
  |head=>exact gO h.1
  |tail _ hm=>exact X3 h.2 v hm
def aMk (b:Nat):List Value→List Value→List (Nat × Nat)→List (Nat × Nat)
 |v::l,u::m,r=>prT b v u (aMk b l m r)
 |_,_,r=>r
def WD (ρ:List (Nat × Nat))(n0:Nat)(h:Heap):Heap→Bool
 |[]=>true
 |(k,.cells false g sz cs0)::r=>Nat.blt k n0&&!(Nat.beq sz 0)&&(match g with|true=>dL cs0|false=>true)&&TI n0 cs0&&(match look h (nm ρ k) with
  |some (.cells _ _ _ cs)=>J2 (cs.take cs0.length) (cs0.map (bJ (nm ρ)))
  |_=>false)&&WD ρ n0 h r
 |_=>false
theorem OT {ρ:List (Nat × Nat)}{n0:Nat}{h:Heap}:∀ {h0:Heap},WD ρ n0 h h0=true→∀ k o,look h0 k=some o→k<n0∧∃ g sz cs0,o=.cells false g sz cs0∧sz≠0∧(g=true→dL cs0=true)∧(∀ v∈cs0,CC n0 v)∧∃ wr g' sz' cs,look h (nm ρ k)=some (.cells wr g' sz' cs)∧cs.take cs0.length=cs0.map (bJ (nm ρ))
 |[],_,k,o,hk=>by cases hk
 |(j,q)::r,hb,k,o,hk=>by
  unfold WD at hb;split at hb
  ·rename_i he;cases he
  ·rename_i k' g sz cs0 r' he;injection he with e1 e2;injection e1 with e3 e4;subst e3;subst e4;subst e2;simp only [Bool.and_eq_true,Bool.not_eq_true'] at hb;obtain⟨⟨⟨⟨⟨h1,h2⟩,h3⟩,h4⟩,h5⟩,h6⟩:=hb;rw [aB] at hk;split at hk
   ·rename_i hbq;have:=beq_true hbq;subst this;injection hk with hk;subst hk;refine⟨Nat.le_of_ble_eq_true h1,g,sz,cs0,rfl,beq_false h2,fun hg=>by subst hg;exact h3,cY h4,?_⟩;split at h5
    ·rename_i wr g' sz' cs hl;exact⟨wr,g',sz',cs,hl,zR h5⟩
    ·cases h5
   exact OT h6 k o hk
  ·cases hb
def oJ.rho (E:oJ)(args:List Value)(h:Heap):List (Nat × Nat):=grow 0 E.h0 h 10000 (aMk 0 E.args args []) []
def UO (E:oJ)(args:List Value)(h:Heap):Bool:=M5 args (E.args.map (fL (nm (E.rho args h))))&&aEg E.n0 E.args&&WD (E.rho args h) E.n0 h E.h0
theorem ZF {E:oJ}{args:List Value}{h:Heap}{nx:Nat}(hf:UO E args h=true):In E.args E.h0 E.n0 args h nx:=by
 simp only [UO,Bool.and_eq_true] at hf;exact nT _ (KZ hf.1.1) (X3 hf.1.2) (OT hf.2)
def T3 (E:oJ):uH:=fun v h' _=>aGA 0 (aAL 0 [(0,E.v1)] [(0,v)] E.h1 h') [(0,E.v1)] E.h1 E.m [(0,v)] h'&&gH E.h1
def Y1 (L:List oJ)(f:Nat):Sp:=fun args0 h0 n0 v1 h1 m=>∃ E∈L,E.f=f∧args0=E.args∧h0=E.h0∧n0=E.n0∧v1=E.v1∧h1=E.h1∧m=E.m
def aFc (f:Nat):List oJ→Bool
 |[]=>false
 |E::r=>match Nat.beq E.f f with|true=>true|false=>aFc f r
def aDL (f:Nat):List oJ→List Value→Heap→Nat→uH→Bool
 |[],_,_,_,_=>false
 |E::r,args,h,nx,K=>match Nat.beq E.f f with
  |true=>(match UO E args h with
   |true=>K (fL (fun k=>nx+k) E.v1) (app (oP nx E.h1) (rZ E.h1 h)) (nx+E.m)
   |false=>aDL f r args h nx K)
  |false=>aDL f r args h nx K
theorem K1 {f:Nat}(L0:List oJ){args:List Value}{h:Heap}{nx:Nat}{K:uH}{K':KE}(hK:∀ v h nx,K v h nx=true→K' v h nx):∀ (L:List oJ),(∀ E∈L,E∈L0)→aDL f L args h nx K=true→xOf (Y1 L0 f) args h nx K'
 |[],_,hl=>by cases hl
 |E::r,hsub,hl=>by
  simp only [aDL] at hl;split at hl
  ·rename_i hb;split at hl
   ·rename_i hf;exact⟨E.args,E.h0,E.n0,E.v1,E.h1,E.m,⟨E,hsub E (.head _),beq_true hb,rfl,rfl,rfl,rfl,rfl,rfl⟩,ZF hf,hK _ _ _ hl⟩
   exact K1 L0 hK r (fun E hE=>hsub E (.tail _ hE)) hl
  exact K1 L0 hK r (fun E hE=>hsub E (.tail _ hE)) hl
abbrev GS:=List Value→Option (Bool × Value)
def gXB (s:GS):List Value→Heap→Nat→uH→Bool:=fun args h nx K=>match s args with
 |some p=>eH p.1 (K p.2 h nx)
 |none=>false
def EV (L:List oJ)(S:List (Nat × GS))(f:Nat):Option (List Value→Heap→Nat→KE→Prop):=match aFc f L with
 |true=>some (xOf (Y1 L f))
 |false=>(match look S f with|some s=>some (gX s)|none=>none)
def E6 (L:List oJ)(S:List (Nat × GS))(f:Nat):Option (List Value→Heap→Nat→uH→Bool):=match aFc f L with
 |true=>some (aDL f L)
 |false=>(match look S f with|some s=>some (gXB s)|none=>none)
theorem GQ {c:DC}{L:List oJ}{S:List (Nat × GS)}(hc:c.X=EV L S):TwX c (E6 L S):=by
 intro f x xb hx hxb args h nx K K' hK hl;rw [hc] at hx;unfold EV at hx;unfold E6 at hxb;split at hx
 ·rename_i hh;rw [hh] at hxb;injection hx with hx;injection hxb with hxb;subst hx;subst hxb;exact K1 L hK L (fun _ h=>h) hl
 rename_i hh;rw [hh] at hxb;simp only at hxb;split at hx
 ·rename_i s hs;rw [hs] at hxb;injection hx with hx;injection hxb with hxb;subst hx;subst hxb;unfold gXB at hl;unfold gX;split at hl
  ·rename_i p hp
   try rw [hp]
   exact aX (hK _ _ _) hl
  ·cases hl
 ·cases hx
def cT (c:DC)(XB:Nat→Option (List Value→Heap→Nat→uH→Bool))(d:Nat)(E:oJ):Prop:=CZ c XB d false E.f E.args E.h0 E.n0 (T3 E)=true
def vX (P:Program)(L:List oJ):Prop:=∀ f,dJ P f (xOf (Y1 L f))
theorem vX.app {P:Program}{L L':List oJ}(h:vX P L)(h':vX P L'):vX P (L++L'):=by
 intro f;have key:∀ args h nx K,xOf (Y1 (L++L') f) args h nx K→xOf (Y1 L f) args h nx K∨xOf (Y1 L' f) args h nx K:=by
  rintro args h nx K ⟨a,b,c,d,e,g,⟨E,hE,he⟩,q⟩;rcases List.mem_append.1 hE with hE|hE
  ·exact .inl ⟨a,b,c,d,e,g,⟨E,hE,he⟩,q⟩
  exact .inr ⟨a,b,c,d,e,g,⟨E,hE,he⟩,q⟩
 refine⟨fun args hp nx K hx=>?_,fun args hp nx K hx=>?_⟩
 ·rcases key _ _ _ _ hx with hx|hx
  ·exact (h f).1 args hp nx K hx
  exact (h' f).1 args hp nx K hx
 obtain⟨a,b,c,d,e,g,q1,q2,q3⟩:=hx;exact⟨_,_,_,q3,fun K' hk=>⟨a,b,c,d,e,g,q1,q2,hk⟩⟩
theorem DO {P:Program}{c:DC}(hc:pA P c){XB:Nat→Option (List Value→Heap→Nat→uH→Bool)}(hX:TwX c XB){d:Nat}{L:List oJ}(hL:∀ E∈L,cT c XB d E):vX P L:=by
 intro f;refine jD (jN hc d).1 fun args0 h0 n0 v1 h1 m hs=>?_;obtain⟨E,hE,rfl,rfl,rfl,rfl,rfl,rfl,rfl⟩:=hs;have t1:=hL E hE;have hv:=qG hX d false E.f E.args E.h0 E.n0 (T3 E) (fun v h nx=>gH E.h1=true∧L5 E.v1 E.h1 E.m v h nx) (fun v h nx ho=>by
  simp only [T3,Bool.and_eq_true] at ho;exact⟨ho.2,_,WE ho.1⟩) t1
 obtain⟨v,h',nx',k1,k2⟩:=(jN hc d).2.2.1 _ _ _ _ _ hv;exact⟨k1.1,_,k2 _ k1.2,fun _ _ _ q=>q⟩
theorem D7 {P:Program}{L:List oJ}(h:vX P L){S:List (Nat × GS)}(hS:∀ f s,look S f=some s→dJ P f (gX s)):∀ f x,EV L S f=some x→dJ P f x:=by
 intro f x hfx;unfold EV at hfx;split at hfx
 ·injection hfx with hfx;subst hfx;exact h f
 split at hfx
 ·rename_i s hs;injection hfx with hfx;subst hfx;exact hS f s hs
 ·cases hfx
end Go.Aw
end
