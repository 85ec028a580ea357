/-
  Parts of a proof. No condition.
-/
import Derived.Test.YthgjfhncomhofaaGreatQAg
import Derived.Test.YthgjfhncomhofaaGreatQAh
import Derived.WalkKit
set_option linter.unusedSimpArgs false
set_option linter.unusedVariables false
noncomputable section
namespace Go.Aw
open Proofs
def ltF:Int->Int->Bool
 |.ofNat m,.ofNat n=>Nat.blt m n
 |.ofNat _,.negSucc _=>false
 |.negSucc _,.ofNat _=>true
 |.negSucc m,.negSucc n=>Nat.blt n m
def leF:Int->Int->Bool
 |.ofNat m,.ofNat n=>Nat.ble m n
 |.ofNat _,.negSucc _=>false
 |.negSucc _,.ofNat _=>true
 |.negSucc m,.negSucc n=>Nat.ble n m
def eqF:Int->Int->Bool
 |.ofNat m,.ofNat n=>Nat.beq m n
 |.ofNat _,.negSucc _=>false
 |.negSucc _,.ofNat _=>false
 |.negSucc m,.negSucc n=>Nat.beq m n
def Z7:IntKind->Int->Bool
 |.i64,.ofNat m=>Nat.ble m 9223372036854775807
 |.i64,.negSucc m=>Nat.ble m 9223372036854775807
 |k,n=>aN k n
theorem aIC (m n:Nat):Nat.blt m n=decide (m<n):=by
 cases h:Nat.blt m n with
 |true=>exact(ai (uO h)).symm
 |false =>
  refine(aj fun hl=>?_).symm;have:Nat.blt m n=true:=Nat.ble_eq_true_of_le hl;rw[h]at this;cases this
theorem aBA (m n:Nat):Nat.ble m n=decide (m<=n):=by
 cases h:Nat.ble m n with
 |true=>exact(ai (Nat.le_of_ble_eq_true h)).symm
 |false =>
  refine(aj fun hl=>?_).symm;have:Nat.ble m n=true:=Nat.ble_eq_true_of_le hl;rw[h]at this;cases this
theorem aJ9 (m n:Nat):Nat.beq m n=decide (m=n):=by
 cases h:Nat.beq m n with
 |true=>exact(ai (az h)).symm
 |false=>exact(aj (ba h)).symm
theorem aLZ (a b:Int):ltF a b=decide (a<b):=by
 rw[Bool.eq_iff_iff];cases a <;> cases b <;> simp only[ltF,aIC,ag,Int.ofNat_eq_natCast,Int.negSucc_eq,Bool.false_eq_true,false_iff,true_iff] <;> omega
theorem aNn (a b:Int):leF a b=decide (a<=b):=by
 rw[Bool.eq_iff_iff];cases a <;> cases b <;> simp only[leF,aBA,ag,Int.ofNat_eq_natCast,Int.negSucc_eq,Bool.false_eq_true,false_iff,true_iff] <;> omega
theorem aN2 (a b:Int):eqF a b=decide (a=b):=by
 rw[Bool.eq_iff_iff];cases a <;> cases b <;> simp only[eqF,aJ9,ag,Int.ofNat_eq_natCast,Int.negSucc_eq,Bool.false_eq_true,false_iff,true_iff] <;> omega
theorem aEq (k:IntKind)(n:Int):Z7 k n=aN k n:=by
 cases k <;> try rfl
 rw[Bool.eq_iff_iff];cases n <;> simp only[Z7,aN,aBA,af,ag,Int.ofNat_eq_natCast,Int.negSucc_eq] <;> omega
def aAe:Ar:={ aF with
 add:=Int.add,sub:=Int.sub,mul:=Int.mul
 lt:=ltF,le:=leF,eq:=eqF,fits:=Z7
 ix:=fun o i s=>Nat.add o (Nat.mul i.toNat s)
 num:=Int.ofNat,toN:=Int.toNat,subN:=Nat.sub }
theorem aFI:aAe=aF:=by
 unfold aAe
 rw[show ltF=aF.lt from funext fun a=>funext fun b=>aLZ a b,show leF=aF.le from funext fun a=>funext fun b=>aNn a b,
  show eqF=aF.eq from funext fun a=>funext fun b=>aN2 a b,show Z7=aF.fits from funext fun a=>funext fun b=>aEq a b]
 rfl
def aS0:EI:={ A:=aAe,T:=tyT,FT:=aw ftL,PL:=plF,PR:=fun _=>false,X:=fun _=>none,M:=1000 }
theorem ZV:∀{l:List (Nat × Func)} {f:Nat} {fn:Func},US l=true->(f,fn)∈l->fnB f fn=true
 |[],_,_,_,h=>by cases h
 |(g,gn)::r,f,fn,hb,h=>by
  simp only[US,af]at hb;cases h with
  |head=>exact hb.1
  |tail _ hm=>exact ZV hb.2 hm
theorem T0 (f : Nat)(fn : Func)(h : aw ftL f = some fn) : Tryz.prog.funcs[f]? = some fn ∧ (fn.name == "runtime.NumGoroutine") = false ∧ ∀ b, fn.body = some b → fF (plF f) b = true := by
 have hm:=aT h;have hb:=ZV aLL hm;unfold fnB at hb;simp only[af,Bool.not_eq_true']at hb;have h1:Tryz.prog.funcs[(f,fn).1]? = some (f,fn).2:=aMK (f,fn) hm;refine⟨h1,hb.1,?_⟩;have h2:=hb.2;generalize plF f=Φ at h2 ⊢;intro b he;simp only[he]at h2;exact h2
theorem KJ (X:Nat->Option (List Value->Heap->Nat->KE->Prop))(hX:∀ f x,X f=some x->c7 Tryz.prog f x)(PR:Nat->Bool)(M:Nat):o6 Tryz.prog { A:=aAe,T:=tyT,FT:=aw ftL,PL:=plF,PR:=PR,X:=X,M:=M } where
 ar:=aFI
 tab:=RQ aGD
 mixed:=by decide +kernel
 funcs:=T0
 xs:=hX
def iv (n:Int):Value:=.int .i64 n
def pt (x y:Int):Value:=.agg #[iv x,iv y]
end Go.Aw
end

noncomputable section
namespace Go.Aw
open Proofs
open Go.RowKit
theorem bm {b:Bool}{X Y:Prop}(h1:b=true->X)(h2:b=false->Y):(match(generalizing:=false) b with|true=>X|false=>Y):=by
 cases b
 ·exact h2 rfl
 exact h1 rfl
theorem eZ {x:Option (List Value)}{v:List Value}{G:List Value->Prop}(h:x=some v)(k:G v):(match(generalizing:=false) x with|some v=>G v|none=>False):=by
 subst h;exact k
theorem fD {x:Option Value}{v:Value}{G:Value->Prop}(h:x=some v)(k:G v):(match(generalizing:=false) x with|some v=>G v|none=>False):=by
 subst h;exact k
abbrev XF:=List Value->Heap->Nat->KE->Prop
def CX (X:Nat->Option XF):VC:=fun f args h nx K=>match X f with|some x=>x args h nx K|none=>False
def noY:VY:=fun _ _ _ _ _=>False
theorem PF {P:Program}{X:Nat->Option XF}(hX:∀ f x,X f=some x->c7 P f x):bN P (CX X):=by
 intro f args h nx K hl ι B w H hs;unfold CX at hl;split at hl
 ·rename_i x hx;exact(hX f x hx).1 args h nx K hl ι B w H hs
 exact hl.elim
theorem ER {P:Program}{X:Nat->Option XF}(hX:∀ f x,X f=some x->c7 P f x):fG (CX X):=by
 intro f args h nx K hl;unfold CX at hl;split at hl
 ·rename_i x hx;obtain⟨v,h',nx',k1,k2⟩:=(hX f x hx).2 args h nx K hl;exact⟨v,h',nx',k1,fun K' hk=>by unfold CX;rw[hx];exact k2 K' hk⟩
 exact hl.elim
theorem LZ {P:Program}:fZ P noY:=fun _ _ _ _ _ hl=>hl.elim
theorem uY:fG noY:=fun _ _ _ _ _ hl=>hl.elim
theorem c7.mono {P:Program}{f:Nat}{x x':XF}(h:c7 P f x)(hm:∀ args h nx K,x' args h nx K->x args h nx K)(hd:∀ args h nx,gN (x' args h nx)):c7 P f x' :=
 ⟨fun args hh nx K hx=>h.1 args hh nx K (hm _ _ _ _ hx),hd⟩
def gX (s:List Value->Option (Bool × Value)):XF:=fun args h nx K=>match s args with|some p=>eF p.1 (K p.2 h nx)|none=>False
theorem lL (h:Heap):app h []=h:=by
 induction h with
 |nil=>rfl
 |cons x r ih=>simp only[app,ih]
theorem AF {P:Program}{C:VC}{f:Nat}{s:List Value->Option (Bool × Value)}(hC:bN P C)
  (hs:∀ args v,s args=some (true,v)->fI args=true/\gT v=true/\C f args [] 0 (fun u _ _=>u=v)):c7 P f (gX s):=by
 refine(eJ (S:=fun args0 h0 n0 v1 h1 m=>s args0=some (true,v1)/\h0=[]/\n0=0/\h1=[]/\m=0) hC ?_).mono ?_ ?_
 ·rintro args0 h0 n0 v1 h1 m ⟨e1,rfl,rfl,rfl,rfl⟩;obtain⟨a1,a2,a3⟩:=hs args0 v1 e1;refine⟨rfl,?_⟩;exact⟨_,a3,fun v h nx e=>by rw[e];exact gM a2⟩
 ·intro args h nx K hx;unfold gX at hx;split at hx
  ·rename_i p e1;obtain⟨b,v⟩:=p;obtain⟨rfl,hx⟩:=aH.1 hx;obtain⟨a1,a2,a3⟩:=hs args v e1;refine⟨args,[],0,v,[],0,⟨e1,rfl,rfl,rfl,rfl⟩,aNz fun u hu=>cD a1 hu,?_⟩;simp only[qY,pF,nK,lL,lJ a2,Nat.add_zero];exact hx
  exact hx.elim
 intro args h nx K hx;unfold gX at hx;split at hx
 ·rename_i p e1;obtain⟨hb,hx⟩:=aH.1 hx;exact⟨p.2,h,nx,hx,fun K' hk=>by unfold gX;rw[e1];exact aM hb hk⟩
 exact hx.elim
theorem aE {ρ:Nat->Nat}{n sz:Nat}{wr g:Bool}{cs:List Value}(hg:dT cs=true):cK ρ n (.cells wr g sz cs) (.cells wr g sz cs) :=
 ⟨rfl,rfl,rfl,(bK hg).symm,fun v hv=>bM (a9 hg hv)⟩
theorem cU {b n0 nx:Nat}{I:KS}{e0 e:List (Nat × Value)}{h0 h:Heap}(hI:I e0 h0 n0)(he:∀ p∈e0,aw e p.1=some (fJ id p.2)/\BO n0 p.2)
  (hh:∀ p∈h0,p.1<n0/\∃ o',aw h (id p.1)=some o'/\cK id n0 p.2 o') (hb:b<=n0):sW b I e h nx :=
 ⟨e0,h0,n0,id,hI,fun t v hv=>he (t,v) (aT hv),fun k o hk=>hh (k,o) (aT hk),fun k k' o o' _ _ e=>e,fun k _=>rfl,hb⟩
def flat {α:Type}(fl:α->List Value):List α->List Value
 |[]=>[]
 |a::r=>fl a++flat fl r
structure El (α:Type) where
 fl:α->List Value
 sz:Nat
 len:∀ a,(fl a).length=sz
 gr:∀ a,dT (fl a)=true
 pos:sz≠0:=by decide
section
variable {α:Type}(E:El α)
theorem aO (l:List α):(flat E.fl l).length=l.length*E.sz:=by
 induction l with
 |nil=>simp[flat]
 |cons a r ih=>simp only[flat,List.length_append,E.len,ih,List.length_cons,Nat.succ_mul];omega
theorem aC (l:List α):dT (flat E.fl l)=true:=by
 induction l with
 |nil=>rfl
 |cons a r ih=>simp only[flat,GB,E.gr,ih,Bool.and_self]
theorem aJW {l:List Value}{o n:Nat}(h:o+n<=l.length):kI l o n=some ((l.drop o).take n):=by
 induction n generalizing o with
 |zero=>simp[kI]
 |succ n ih =>
  have hlt:o<l.length:=aa;simp only[kI,BR,List.getElem?_eq_getElem hlt,ih (o:=o+1) aa];congr 1;rw[List.drop_eq_getElem_cons hlt];rfl
theorem R4 (l:List α)(i:Nat)(hi:i<l.length):((flat E.fl l).drop (i*E.sz)).take E.sz=E.fl l[i]:=by
 induction l generalizing i with
 |nil=>simp at hi
 |cons a r ih =>
  cases i with
  |zero =>
   simp only[flat,Nat.zero_mul,List.drop_zero,List.getElem_cons_zero];rw[List.take_append_of_le_length (by rw[E.len];exact ah _),List.take_of_length_le (by rw[E.len];exact ah _)]
  |succ i =>
   have hl:(fl:List Value)->True:=fun _=>trivial;simp only[flat,List.getElem_cons_succ];rw[show(i+1)*E.sz=(E.fl a).length+i*E.sz by rw[E.len,Nat.succ_mul];omega,List.drop_append,Nat.add_sub_cancel_left,List.drop_eq_nil_of_le aa,List.nil_append];exact ih i (by simpa using hi)
theorem qX (l:List α){i o:Nat}(hi:i<l.length)(ho:o=i*E.sz):kI (flat E.fl l) o E.sz=some (E.fl l[i]):=by
 subst ho;have h1:(i+1)*E.sz<=l.length*E.sz:=Nat.mul_le_mul_right _ hi;rw[aJW (by rw[aO];rw[Nat.succ_mul]at h1;exact h1),R4 E l i hi]
def eY (h:Heap)(v:Value)(l:List α):Prop :=
 match v with
 |.slice none n c=>n=0/\c=0/\l=[]
 |.slice (some ⟨k,o,none⟩) n _=>n=l.length/\∃ wr g sz cs,aw h k=some (.cells wr g sz cs)/\(cs.drop o).take (flat E.fl l).length=flat E.fl l
 |_=>False
def lX (s:List α->List Value->Option (Bool × Value)):XF:=fun args h nx K=>match args with
 |v::r=>∃ l,eY E h v l/\(match s l r with|some p=>eF p.1 (K p.2 h nx)|none=>False)
 |_=>False
theorem Q7 {r:List Value}(hr:fI r=true){h:Heap}{nx:Nat}(g0:Bool)(sz:Nat)(hz:sz≠0):In (ak 0 0 0::r) [(0,.cells false g0 sz [])] 1 (.slice none 0 0::r) h nx:=by
 intro ι B w H hs;have hmap:∀ ι1 ι2:Nat->Loc,r.map (tr ι1)=r.map (tr ι2):=fun ι1 ι2=>List.map_congr_left fun v hv=>(by rw[iU (cD hr hv),iU (cD hr hv)]);refine⟨fun _=>.nil none,?_,?_,⟨?_,?_,?_,ah _,?_⟩⟩
 ·rw[List.map_cons,List.map_cons,hmap ι];rfl
 ·intro v hv;cases hv with
  |head=>exact⟨Nat.one_pos,fun _=>⟨rfl,rfl⟩⟩
  |tail _ hm=>exact c9 (cD hr hm)
 ·intro j q hq;rw[aD]at hq;split at hq
  ·injection hq with hq;subst hq;exact⟨rfl,fun h=>h.elim (fun h=>absurd h hz) (fun h=>by cases h)⟩
  exact cA hq
 ·intro j j' q q' hq hq' hne ha b hb;cases hb
 ·intro j q hq;rw[aD]at hq;split at hq
  ·rename_i hb;rw[<- az hb];exact Nat.one_pos
  exact cA hq
 intro j q hq;rw[aD]at hq;split at hq
 ·injection hq with hq;subst hq;intro v hv;cases hv
 exact cA hq
theorem OV {P:Program}{C:VC}{f:Nat}{s:List α->List Value->Option (Bool × Value)}(hC:bN P C)
  (hs:∀ l r v,s l r=some (true,v)->fI r=true/\gT v=true/\∀ c,C f (ak 0 l.length c::r) [(0,.cells false true E.sz (flat E.fl l))] 1 (fun u _ _=>u=v)):c7 P f (lX E s):=by
 refine(eJ (S:=fun args0 h0 n0 v1 h1 m=>∃ l r c,s l r=some (true,v1)/\args0=ak 0 l.length c::r/\h0=[(0,.cells false true E.sz (flat E.fl l))]/\n0=1/\h1=[]/\m=0) hC ?_).mono ?_ ?_
 ·rintro args0 h0 n0 v1 h1 m ⟨l,r,c,e1,rfl,rfl,rfl,rfl,rfl⟩;obtain⟨a1,a2,a3⟩:=hs l r v1 e1;exact⟨rfl,_,a3 c,fun v h nx e=>by rw[e];exact gM a2⟩
 ·intro args h nx K hx;unfold lX at hx;split at hx
  case h_2=>exact hx.elim
  rename_i v r;obtain⟨l,hl,hx⟩:=hx;split at hx
  case h_2=>exact hx.elim
  rename_i p e1;obtain⟨b,u⟩:=p;obtain⟨rfl,hx⟩:=aH.1 hx;obtain⟨a1,a2,a3⟩:=hs l r u e1;have hK:K (fJ (fun k=>nx+k) u) (app (nK nx []) (qY [] h)) (nx+0):=by
   simp only[qY,pF,nK,lL,lJ a2,Nat.add_zero];exact hx
  unfold eY at hl;split at hl
  ·rename_i n c;obtain⟨rfl,rfl,rfl⟩:=hl;exact⟨_,_,1,u,[],0,⟨[],r,0,e1,rfl,rfl,rfl,rfl,rfl⟩,Q7 a1 true E.sz E.pos,hK⟩
  ·rename_i k o n c;obtain⟨rfl,wr,g,sz,cs,hk,hcs⟩:=hl;exact⟨_,_,1,u,[],0,⟨l,r,c,e1,rfl,rfl,rfl,rfl,rfl⟩,Z6 a1 hk hcs (aC E l) true E.sz E.pos,hK⟩
  exact hl.elim
 intro args h nx K hx;unfold lX at hx;split at hx
 case h_2=>exact hx.elim
 rename_i v r;obtain⟨l,hl,hx⟩:=hx;split at hx
 case h_2=>exact hx.elim
 rename_i p e1;obtain⟨hb,hx⟩:=aH.1 hx;exact⟨p.2,h,nx,hx,fun K' hk=>⟨l,hl,by rw[e1];exact aM hb hk⟩⟩
end
def aB:EI:={ A:=aF,T:=tyT,FT:=aw ftL,PL:=plF,PR:=fun _=>false,X:=fun _=>none,M:=0 }
theorem gE:o6 Tryz.prog aB where
 ar:=rfl
 tab:=RQ aGD
 mixed:=by decide +kernel
 funcs:=T0
 xs:=fun _ _ h=>by cases h
def body (xl:List (Nat × XF)):VC:=tK aB none (CX (aw xl)) noY
def lA (xl:List (Nat × XF)):Prop:=∀ p∈xl,c7 Tryz.prog p.1 p.2
theorem lA.nil:lA []:=fun _ h=>by cases h
theorem lA.cons {f:Nat}{x:XF}{l:List (Nat × XF)}(h:c7 Tryz.prog f x)(hl:lA l):lA ((f,x)::l):=ae.2 ⟨h,hl⟩
theorem lA.look {xl:List (Nat × XF)}(h:lA xl)(f:Nat)(x:XF)(hx:aw xl f=some x):c7 Tryz.prog f x:=h (f,x) (aT hx)
theorem aL {xl:List (Nat × XF)}(h:lA xl):bN Tryz.prog (body xl):=tM gE (PF h.look) LZ (ER h.look) uY none
def ptv (p:Int × Int):Value:=.agg #[iv p.1,iv p.2]
def aCO:Value->Option Int
 |.int .i64 n=>some n
 |_=>none
def YM:Value->Option (Int × Int)
 |.agg ⟨[.int .i64 x,.int .i64 y]⟩=>some (x,y)
 |_=>none
theorem IB {v:Value}{n:Int}(h:aCO v=some n):v=iv n:=by
 unfold aCO at h;split at h
 ·injection h with h;subst h;rfl
 ·cases h
theorem DF {v:Value}{p:Int × Int}(h:YM v=some p):v=ptv p:=by
 unfold YM at h;split at h
 ·injection h with h;subst h;rfl
 ·cases h
def s1P (F:Int × Int->Bool × Value):List Value->Option (Bool × Value)
 |[a]=>(match YM a with|some p=>some (F p)|none=>none)
 |_=>none
theorem aJB {F:Int × Int->Bool × Value}{args:List Value}{r:Bool × Value}(h:s1P F args=some r):∃ p,args=[ptv p]/\F p=r:=by
 unfold s1P at h;split at h
 ·split at h
  ·rename_i p e;injection h with h;exact⟨p,by rw[DF e],h⟩
  ·cases h
 ·cases h
def s3P (F:Int × Int->Int × Int->Int × Int->Bool × Value):List Value->Option (Bool × Value)
 |[a,b,c]=>(match YM a with|some p=>(match YM b with|some q=>(match YM c with|some r=>some (F p q r)|none=>none)|none=>none)|none=>none)
 |_=>none
theorem aJF {F:Int × Int->Int × Int->Int × Int->Bool × Value}{args:List Value}{r:Bool × Value}(h:s3P F args=some r):∃ p q s,args=[ptv p,ptv q,ptv s]/\F p q s=r:=by
 unfold s3P at h;split at h
 ·split at h
  ·rename_i p e;split at h
   ·rename_i q e2;split at h
    ·rename_i s e3;injection h with h;exact⟨p,q,s,by rw[DF e,DF e2,DF e3],h⟩
    ·cases h
   ·cases h
  ·cases h
 ·cases h
def s1I (F:Int->Bool × Value):List Value->Option (Bool × Value)
 |[a]=>(match aCO a with|some p=>some (F p)|none=>none)
 |_=>none
theorem aIo {F:Int->Bool × Value}{args:List Value}{r:Bool × Value}(h:s1I F args=some r):∃ p,args=[iv p]/\F p=r:=by
 unfold s1I at h;split at h
 ·split at h
  ·rename_i p e;injection h with h;exact⟨p,by rw[IB e],h⟩
  ·cases h
 ·cases h
def s2I (F:Int->Int->Bool × Value):List Value->Option (Bool × Value)
 |[a,b]=>(match aCO a with|some p=>(match aCO b with|some q=>some (F p q)|none=>none)|none=>none)
 |_=>none
theorem aIc {F:Int->Int->Bool × Value}{args:List Value}{r:Bool × Value}(h:s2I F args=some r):∃ p q,args=[iv p,iv q]/\F p q=r:=by
 unfold s2I at h;split at h
 ·split at h
  ·rename_i p e;split at h
   ·rename_i q e2;injection h with h;exact⟨p,q,by rw[IB e,IB e2],h⟩
   ·cases h
  ·cases h
 ·cases h
def dM (xl:List (Nat × XF))(f:Nat)(args:List Value)(v:Value):Prop:=body xl f args [] 0 (fun u _ _=>u=v)
theorem x1P {xl:List (Nat × XF)}(hx:lA xl){f:Nat}{F:Int × Int->Bool × Value}(hg:∀ p,gT (F p).2=true)(h:∀ p,(F p).1=true->dM xl f [ptv p] (F p).2):c7 Tryz.prog f (gX (s1P F)) :=
 AF (aL hx) fun args v hs=>by
  obtain⟨p,rfl,e⟩:=aJB hs;have h1:(F p).1=true:=(by rw[e]);have h2:(F p).2=v:=(by rw[e]);subst h2;exact⟨rfl,hg p,h p h1⟩
theorem x3P {xl:List (Nat × XF)}(hx:lA xl){f:Nat}{F:Int × Int->Int × Int->Int × Int->Bool × Value}(hg:∀ p q r,gT (F p q r).2=true)(h:∀ p q r,(F p q r).1=true->dM xl f [ptv p,ptv q,ptv r] (F p q r).2):c7 Tryz.prog f (gX (s3P F)) :=
 AF (aL hx) fun args v hs=>by
  obtain⟨p,q,r,rfl,e⟩:=aJF hs;have h1:(F p q r).1=true:=(by rw[e]);have h2:(F p q r).2=v:=(by rw[e]);subst h2;exact⟨rfl,hg p q r,h p q r h1⟩
theorem x1I {xl:List (Nat × XF)}(hx:lA xl){f:Nat}{F:Int->Bool × Value}(hg:∀ p,gT (F p).2=true)(h:∀ p,(F p).1=true->dM xl f [iv p] (F p).2):c7 Tryz.prog f (gX (s1I F)) :=
 AF (aL hx) fun args v hs=>by
  obtain⟨p,rfl,e⟩:=aIo hs;have h1:(F p).1=true:=(by rw[e]);have h2:(F p).2=v:=(by rw[e]);subst h2;exact⟨rfl,hg p,h p h1⟩
theorem x2I {xl:List (Nat × XF)}(hx:lA xl){f:Nat}{F:Int->Int->Bool × Value}(hg:∀ p q,gT (F p q).2=true)(h:∀ p q,(F p q).1=true->dM xl f [iv p,iv q] (F p q).2):c7 Tryz.prog f (gX (s2I F)) :=
 AF (aL hx) fun args v hs=>by
  obtain⟨p,q,rfl,e⟩:=aIc hs;have h1:(F p q).1=true:=(by rw[e]);have h2:(F p q).2=v:=(by rw[e]);subst h2;exact⟨rfl,hg p q,h p q h1⟩
def aX:El (Int × Int):=⟨fun p=>[iv p.1,iv p.2],2,fun _=>rfl,fun _=>rfl,by decide⟩
def bF (p:Int × Int):Bool:=decide (0<=p.1)&&decide (p.1<=10000)&&decide (0<=p.2)&&decide (p.2<=10000)
def wide (p:Int × Int):Bool:=decide (-1000000<=p.1)&&decide (p.1<=1000000)&&decide (-1000000<=p.2)&&decide (p.2<=1000000)
def bO (a b c:Int × Int):Int:=(b.1 - a.1)*(c.2 - a.2) - (b.2 - a.2)*(c.1 - a.1)
def sgn (n:Int):Int:=if n<0 then -1 else if 0<n then 1 else 0
def jN (a b:Int):Int:=if a<b then -1 else if b<a then 1 else 0
def bH (a b c:Int × Int):Int:=sgn (bO a b c)
set_option maxRecDepth 100000
def X58:Nat × XF:=(137,gX (s1P fun p=>(true,.bool (bF p))))
theorem x58:c7 Tryz.prog X58.1 X58.2:=x1P .nil (fun _=>rfl) fun p _=>by
 obtain⟨x,y⟩:=p;unfold dM
 repeat' (conv=>whnf
          apply bm<;>intro h)
 all_goals(conv=>whnf)
 all_goals(simp[aB,aF]at *;simp[bF, *] <;> omega)
theorem bt {b:Bool}{A B:Prop}(a:A)(h:b=true:=by(simp[aB,aF,aN] <;> omega)):(match(generalizing:=false) b with|true=>A|false=>B):=by
 subst h;exact a
theorem bu {b:Bool}{A B:Prop}(a:b=true->A)(h:b=true:=by(simp[aB,aF,aN] <;> omega)):(match(generalizing:=false) b with|true=>A|false=>B):=by
 subst h;exact a rfl
theorem uH {a b A B:Int}(h1 : -A<=a)(h2:a<=A)(h3 : -B<=b)(h4:b<=B) : -(A*B)<=a*b/\a*b<=A*B:=by
 have e1:=Int.mul_nonneg (aa:0<=A - a) (aa:0<=B+b);have e2:=Int.mul_nonneg (aa:0<=A+a) (aa:0<=B - b);have e3:=Int.mul_nonneg (aa:0<=A - a) (aa:0<=B - b);have e4:=Int.mul_nonneg (aa:0<=A+a) (aa:0<=B+b);simp only[Int.sub_mul,Int.mul_sub,Int.add_mul,Int.mul_add]at e1 e2 e3 e4;omega
set_option maxRecDepth 100000
def X56:Nat × XF:=(156,gX (s1P fun p=>(true,.bool (bF p))))
theorem x56:c7 Tryz.prog X56.1 X56.2:=x1P .nil (fun _=>rfl) fun p _=>by
 obtain⟨x,y⟩:=p;unfold dM
 repeat' (conv=>whnf
          apply bm<;>intro h)
 all_goals(conv=>whnf)
 all_goals(simp[aB,aF]at *;simp[bF, *] <;> omega)
def aMR:Nat × XF:=(177,gX (s1I fun p=>(true,.bool false)))
theorem aRV:c7 Tryz.prog aMR.1 aMR.2:=x1I .nil (fun _=>rfl) fun p _=>by
 unfold dM
 repeat' (conv=>whnf
          apply bm<;>intro h)
 all_goals(conv=>whnf)
 all_goals(simp[aB,aF]at *)
def RN:Nat × XF:=(124,gX (s2I fun p q=>(true,iv (jN p q))))
theorem UQ:c7 Tryz.prog RN.1 RN.2:=x2I (xl:=[aMR]) (.cons aRV .nil) (fun _ _=>rfl) fun p q _=>by
 unfold dM
 repeat' (conv=>whnf
          apply bm<;>intro h)
 all_goals(conv=>whnf)
 all_goals(simp[aB,aF]at *;simp[jN,iv] <;> omega)
def aLO:Nat × XF:=(223,gX (s1I fun p=>(true,iv (sgn p))))
theorem aSo:c7 Tryz.prog aLO.1 aLO.2:=x1I .nil (fun _=>rfl) fun p _=>by
 unfold dM
 repeat' (conv=>whnf
          apply bm<;>intro h)
 all_goals(conv=>whnf)
 all_goals(simp[aB,aF]at *;simp[sgn,iv] <;> omega)
def aN5:Nat × XF:=(222,gX (s3P fun a b c=>(wide a&&wide b&&wide c,iv (bO a b c))))
theorem aSF:c7 Tryz.prog aN5.1 aN5.2:=x3P .nil (fun _ _ _=>rfl) fun a b c hp=>by
 obtain⟨ax,ay⟩:=a;obtain⟨bx,b_y⟩:=b;obtain⟨cx,cy⟩:=c;simp only[wide,af,ag]at hp;have m1:=uH (a:=bx - ax) (b:=cy - ay) (A:=2000000) (B:=2000000) aa aa aa aa;have m2:=uH (a:=b_y - ay) (b:=cx - ax) (A:=2000000) (B:=2000000) aa aa aa aa;unfold dM
 repeat' (conv=>whnf
          apply bm<;>intro h)
 all_goals(conv=>whnf)
 all_goals(simp[aB,aF,aN]at *)
 all_goals first|omega|simp[bO,iv]
def X55:Nat × XF:=(202,gX (s3P fun a b c=>(wide a&&wide b&&wide c,iv (bH a b c))))
theorem x55:c7 Tryz.prog X55.1 X55.2:=x3P (xl:=[RN,aN5]) (.cons UQ (.cons aSF .nil)) (fun _ _ _=>rfl) fun a b c hp=>by
 obtain⟨ax,ay⟩:=a;obtain⟨bx,b_y⟩:=b;obtain⟨cx,cy⟩:=c;unfold dM
 repeat' (conv=>whnf
          apply bm<;>intro h)
 all_goals(conv=>whnf)
 all_goals(simp at *)
 ·simp[bH,jN,sgn,iv]
 simp_all
def X57:Nat × XF:=(204,gX (s3P fun a b c=>(wide a&&wide b&&wide c,iv (bH a b c))))
theorem x57:c7 Tryz.prog X57.1 X57.2:=x3P (xl:=[aLO]) (.cons aSo .nil) (fun _ _ _=>rfl) fun a b c hp=>by
 obtain⟨ax,ay⟩:=a;obtain⟨bx,b_y⟩:=b;obtain⟨cx,cy⟩:=c;simp only[wide,af,ag]at hp;have m1:=uH (a:=bx - ax) (b:=cy - ay) (A:=2000000) (B:=2000000) aa aa aa aa;have m2:=uH (a:=b_y - ay) (b:=cx - ax) (A:=2000000) (B:=2000000) aa aa aa aa;unfold dM
 repeat' (conv=>whnf
          apply bm<;>intro h)
 all_goals(conv=>whnf)
 all_goals(simp[aB,aF,aN]at *)
 all_goals first|omega|simp[bH,bO,sgn,iv]
def X17:Nat × XF:=(59,gX (s1P fun p=>(true,iv (if bF p then 0 else 1))))
theorem x17:c7 Tryz.prog X17.1 X17.2:=x1P (xl:=[X58]) (.cons x58 .nil) (fun _=>rfl) fun p _=>by
 obtain⟨x,y⟩:=p;unfold dM
 repeat' (conv=>whnf
          apply bm<;>intro h)
 all_goals(conv=>whnf)
 all_goals(simp[aB,aF]at *;simp[iv, *])
def X18:Nat × XF:=(97,gX (s1P fun p=>(true,iv (if bF p then 0 else 1))))
theorem x18:c7 Tryz.prog X18.1 X18.2:=x1P (xl:=[X56]) (.cons x56 .nil) (fun _=>rfl) fun p _=>by
 obtain⟨x,y⟩:=p;unfold dM
 repeat' (conv=>whnf
          apply bm<;>intro h)
 all_goals(conv=>whnf)
 all_goals(simp[aB,aF]at *;simp[iv, *])
theorem oN {p:Int × Int}(h:bF p=true):wide p=true:=by
 simp only[bF,wide,af,ag]at *;omega
set_option maxRecDepth 100000
theorem aFa {α:Type}(E:El α){l:List α}{c:Nat}{wr g:Bool}{sz:Nat}{h:Heap}(hk:aw h 0=some (.cells wr g sz (flat E.fl l))):eY E h (ak 0 l.length c) l :=
 ⟨rfl,wr,g,sz,_,hk,by rw[List.drop_zero,List.take_length]⟩
def s0 (v:Value):List Value->Option (Bool × Value)
 |[]=>some (true,v)
 |_=>none
theorem XU (a b c:Int × Int):bO b a c = - bO a b c:=by
 simp only[bO,Int.sub_mul,Int.mul_sub];have h1:=Int.mul_comm a.1 b.2;have h2:=Int.mul_comm a.2 b.1;have h3:=Int.mul_comm a.1 c.2;have h4:=Int.mul_comm a.2 c.1;have h5:=Int.mul_comm b.1 c.2;have h6:=Int.mul_comm b.2 c.1;have h7:=Int.mul_comm a.1 a.2;have h8:=Int.mul_comm b.1 b.2;omega
theorem oH (a b c:Int × Int) : -1<=bH a b c/\bH a b c<=1:=by
 unfold bH sgn;split <;> (try split) <;> omega
end Go.Aw
end

namespace Go.Aw
open Proofs
theorem mZ {D u:Int}(hD:0<D)(h:0<=D*u):0<=u:=by
 by_cases hu:0<=u
 ·exact hu
 have:0<D*(-u):=Int.mul_pos hD aa;rw[Int.mul_neg]at this;omega
theorem aQ2 {D E t u:Int}(h:D*u=E*t)(hD:0<D)(h0:0<=t)(h1:t<=D):(0<=E->0<=u/\u<=E)/\(E<=0->E<=u/\u<=0):=by
 refine⟨fun hE=>⟨?_,?_⟩,fun hE=>⟨?_,?_⟩⟩
 ·exact mZ hD (by rw[h];exact Int.mul_nonneg hE h0)
 ·have h2:0<=D*(E - u):=by
   rw[Int.mul_sub,h,Int.mul_comm D E,<- Int.mul_sub];exact Int.mul_nonneg hE aa
  have:=mZ hD h2;omega
 ·have h2:0<=D*(u - E):=by
   rw[Int.mul_sub,h,Int.mul_comm D E,<- Int.mul_sub];rw[show E*(t - D)=(-E)*(D - t) by rw[Int.neg_mul,<- Int.mul_neg];congr 1;omega];exact Int.mul_nonneg aa aa
  have:=mZ hD h2;omega
 have h2:0<=D*(-u):=by
  rw[Int.mul_neg,h,<- Int.neg_mul];exact Int.mul_nonneg aa h0
 have:=mZ hD h2;omega
theorem aGQ {D u:Int}(h:D*u=0)(hD:D≠0):u=0:=by
 rcases Int.mul_eq_zero.1 h with h|h
 ·exact absurd h hD
 exact h
theorem aBt {ax ay bx b2 px py:Int}(h:(bx - ax)*(py - ay)=(b2 - ay)*(px - ax))(hlt:ax<bx) :
  ((ax<px\/(ax=px/\ay<=py))/\(px<bx\/(px=bx/\py<=b2)))↔((ax<=px/\px<=bx)/\((ay<=b2->ay<=py/\py<=b2)/\(b2<=ay->b2<=py/\py<=ay))):=by
 constructor
 ·intro⟨h1,h2⟩;have hx:ax<=px/\px<=bx:=aa;have hc:=aQ2 (D:=bx - ax) (E:=b2 - ay) (t:=px - ax) (u:=py - ay) h aa aa aa;refine⟨hx,fun he=>?_,fun he=>?_⟩
  ·have:=hc.1 aa;omega
  have:=hc.2 aa;omega
 intro⟨h1,h2,h3⟩;have hc:=aQ2 (D:=bx - ax) (E:=b2 - ay) (t:=px - ax) (u:=py - ay) h aa aa aa;refine⟨?_,?_⟩
 ·by_cases e:ax<px
  ·exact .inl e
  have e:ax=px:=aa;subst e;rw[Int.sub_self,Int.mul_zero]at h;have:=aGQ h aa;exact .inr ⟨rfl,aa⟩
 by_cases e:px<bx
 ·exact .inl e
 have e:px=bx:=aa;subst e;have h4:(px - ax)*(py - b2)=0:=by
  rw[(aa:py - b2=(py - ay) - (b2 - ay)),Int.mul_sub,h,Int.mul_comm (b2 - ay)];omega
 have:=aGQ h4 aa;exact .inr ⟨rfl,aa⟩
end Go.Aw

noncomputable section
namespace Go.Aw
open Proofs
set_option maxRecDepth 100000
structure Cd (α:Type) where
 dec:Value->Option α
 enc:α->Value
 ok:∀ v a,dec v=some a->v=enc a
 gr:∀ a,gA (enc a)=true
def cI:Cd Int:=⟨aCO,iv,fun _ _ h=>IB h,fun _=>rfl⟩
def cP:Cd (Int × Int):=⟨YM,ptv,fun _ _ h=>DF h,fun _=>rfl⟩
abbrev Sg:=(Int × Int) × (Int × Int)
def sgv (s:Sg):Value:=.agg #[iv s.1.1,iv s.1.2,iv s.2.1,iv s.2.2]
def aDg:Value->Option Sg
 |.agg ⟨[.int .i64 a,.int .i64 b,.int .i64 c,.int .i64 d]⟩=>some ((a,b),(c,d))
 |_=>none
theorem II {v:Value}{s:Sg}(h:aDg v=some s):v=sgv s:=by
 unfold aDg at h;split at h
 ·injection h with h;subst h;rfl
 ·cases h
def cS:Cd Sg:=⟨aDg,sgv,fun _ _ h=>II h,fun _=>rfl⟩
section
variable {α β γ:Type}(a:Cd α)(b:Cd β)(c:Cd γ)
def s1 (F:α->Bool × Value):List Value->Option (Bool × Value)
 |[u]=>(match a.dec u with|some x=>some (F x)|none=>none)
 |_=>none
def s2 (F:α->β->Bool × Value):List Value->Option (Bool × Value)
 |[u,v]=>(match a.dec u with|some x=>(match b.dec v with|some y=>some (F x y)|none=>none)|none=>none)
 |_=>none
def s3 (F:α->β->γ->Bool × Value):List Value->Option (Bool × Value)
 |[u,v,w]=>(match a.dec u with|some x=>(match b.dec v with|some y=>(match c.dec w with|some z=>some (F x y z)|none=>none)|none=>none)|none=>none)
 |_=>none
theorem aLX {F:α->Bool × Value}{args:List Value}{r:Bool × Value}(h:s1 a F args=some r):∃ x,args=[a.enc x]/\F x=r:=by
 unfold s1 at h;split at h
 ·split at h
  ·rename_i x e;injection h with h;exact⟨x,by rw[a.ok _ _ e],h⟩
  ·cases h
 ·cases h
theorem aLV {F:α->β->Bool × Value}{args:List Value}{r:Bool × Value}(h:s2 a b F args=some r):∃ x y,args=[a.enc x,b.enc y]/\F x y=r:=by
 unfold s2 at h;split at h
 ·split at h
  ·rename_i x e;split at h
   ·rename_i y e2;injection h with h;exact⟨x,y,by rw[a.ok _ _ e,b.ok _ _ e2],h⟩
   ·cases h
  ·cases h
 ·cases h
theorem aFV {F:α->β->γ->Bool × Value}{args:List Value}{r:Bool × Value}(h:s3 a b c F args=some r):∃ x y z,args=[a.enc x,b.enc y,c.enc z]/\F x y z=r:=by
 unfold s3 at h;split at h
 ·split at h
  ·rename_i x e;split at h
   ·rename_i y e2;split at h
    ·rename_i z e3;injection h with h;exact⟨x,y,z,by rw[a.ok _ _ e,b.ok _ _ e2,c.ok _ _ e3],h⟩
    ·cases h
   ·cases h
  ·cases h
 ·cases h
theorem x1 {xl:List (Nat × XF)}(hx:lA xl){f:Nat}{F:α->Bool × Value}(hg:∀ x,gT (F x).2=true)(h:∀ x,(F x).1=true->dM xl f [a.enc x] (F x).2):c7 Tryz.prog f (gX (s1 a F)) :=
 AF (aL hx) fun args v hs=>by
  obtain⟨x,rfl,e⟩:=aLX a hs;have h1:(F x).1=true:=(by rw[e]);have h2:(F x).2=v:=(by rw[e]);subst h2;exact⟨by simp[fI,a.gr],hg x,h x h1⟩
theorem x2 {xl:List (Nat × XF)}(hx:lA xl){f:Nat}{F:α->β->Bool × Value}(hg:∀ x y,gT (F x y).2=true)(h:∀ x y,(F x y).1=true->dM xl f [a.enc x,b.enc y] (F x y).2):c7 Tryz.prog f (gX (s2 a b F)) :=
 AF (aL hx) fun args v hs=>by
  obtain⟨x,y,rfl,e⟩:=aLV a b hs;have h1:(F x y).1=true:=(by rw[e]);have h2:(F x y).2=v:=(by rw[e]);subst h2;exact⟨by simp[fI,a.gr,b.gr],hg x y,h x y h1⟩
theorem x3 {xl:List (Nat × XF)}(hx:lA xl){f:Nat}{F:α->β->γ->Bool × Value}(hg:∀ x y z,gT (F x y z).2=true)(h:∀ x y z,(F x y z).1=true->dM xl f [a.enc x,b.enc y,c.enc z] (F x y z).2):c7 Tryz.prog f (gX (s3 a b c F)) :=
 AF (aL hx) fun args v hs=>by
  obtain⟨x,y,z,rfl,e⟩:=aFV a b c hs;have h1:(F x y z).1=true:=(by rw[e]);have h2:(F x y z).2=v:=(by rw[e]);subst h2;exact⟨by simp[fI,a.gr,b.gr,c.gr],hg x y z,h x y z h1⟩
end
def aFf (xl:List (Nat × XF))(n:Nat):VC:=tK aB (some n) (CX (aw xl)) noY
theorem yJ {xl:List (Nat × XF)}(h:lA xl)(n:Nat):bN Tryz.prog (aFf xl n):=tM gE (PF h.look) LZ (ER h.look) uY (some n)
def aW:El Int:=⟨fun n=>[iv n],1,fun _=>rfl,fun _=>rfl,by decide⟩
def orI (a b:Int):Int:=if a=0 then b else a
def aPe:List Int->List Value->Option (Bool × Value)
 |[a,b],[]=>some (true,iv (orI a b))
 |_,_=>none
def aCi:Nat × XF:=(123,lX aW aPe)
theorem aIB:c7 Tryz.prog aCi.1 aCi.2:=OV aW (yJ (xl:=[]) .nil 4) fun l r v hs=>by
 have:∃ a b,l=[a,b]/\r=[]/\v=iv (orI a b):=by
  unfold aPe at hs;split at hs
  ·injection hs with hs;injection hs with _ h2;exact⟨_,_,rfl,rfl,h2.symm⟩
  ·cases hs
 obtain⟨a,b,rfl,rfl,rfl⟩:=this;refine⟨rfl,rfl,fun c=>?_⟩
 repeat' (conv=>whnf
          apply bm<;>intro h)
 all_goals(conv=>whnf)
 all_goals(simp only[aB,aF,iv,orI]at *;simp at *)
 all_goals(try simp_all)
theorem HJ (p:Int × Int):(p.1,p.2)=p:=rfl
def iV (a b:Int × Int):Int:=orI (jN a.1 b.1) (jN a.2 b.2)
def aE7:Nat × XF:=(167,gX (s2 cP cP fun a b=>(true,iv (iV a b))))
theorem aIA:c7 Tryz.prog aE7.1 aE7.2:=x2 cP cP (xl:=[RN,aCi]) (.cons UQ (.cons aIB .nil)) (fun _ _=>rfl) fun a b _=>by
 obtain⟨ax,ay⟩:=a;obtain⟨bx,b_y⟩:=b;unfold dM
 conv=>whnf
 refine⟨[jN ax bx,jN ay b_y],⟨rfl,_,_,_,_,rfl,rfl⟩,?_⟩
 conv=>whnf
 rfl
def bY (s:Sg):(Int × Int) × (Int × Int):=if 0<iV s.1 s.2 then(s.2,s.1)else(s.1,s.2)
def X74:Nat × XF:=(207,gX (s1 cS fun s=>(true,.tuple #[ptv (bY s).1,ptv (bY s).2])))
theorem x74:c7 Tryz.prog X74.1 X74.2:=x1 cS (xl:=[aE7]) (.cons aIA .nil) (fun _=>rfl) fun s _=>by
 obtain⟨⟨ax,ay⟩,⟨bx,b_y⟩⟩:=s;unfold dM
 repeat' (conv=>whnf
          apply bm<;>intro h)
 all_goals(conv=>whnf)
 all_goals(simp only[aB,aF,ag,decide_eq_false_iff_not]at h)
 ·simp[bY,h,ptv,iv]
 simp[bY,h,ptv,iv]
def NN (p:Int × Int)(s:Sg):Bool:=decide (iV (bY s).1 p<=0)&&decide (iV p (bY s).2<=0)
def aMI:Nat × XF:=(221,gX (s2 cP cS fun p s=>(true,.bool (NN p s))))
theorem aS7:c7 Tryz.prog aMI.1 aMI.2:=x2 cP cS (xl:=[aE7,X74]) (.cons aIA (.cons x74 .nil)) (fun _ _=>rfl) fun p s _=>by
 obtain⟨px,py⟩:=p;obtain⟨⟨ax,ay⟩,⟨bx,b_y⟩⟩:=s;unfold dM
 repeat' (conv=>whnf
          apply bm<;>intro h)
 all_goals(conv=>whnf)
 all_goals(simp only[aB,aF,HJ]at *;simp at h ⊢;simp[NN, *] <;> omega)
def jZ (s:Sg):Bool:=wide s.1&&wide s.2
def onS (p:Int × Int)(s:Sg):Bool:=decide (bH s.1 s.2 p=0)&&NN p s
def X65:Nat × XF:=(201,gX (s2 cP cS fun p s=>(wide p&&jZ s,.bool (onS p s))))
theorem x65:c7 Tryz.prog X65.1 X65.2:=x2 cP cS (xl:=[X55,aMI]) (.cons x55 (.cons aS7 .nil)) (fun _ _=>rfl) fun p s hp=>by
 obtain⟨px,py⟩:=p;obtain⟨⟨ax,ay⟩,⟨bx,b_y⟩⟩:=s;simp only[jZ,af]at hp;unfold dM
 repeat' (conv=>whnf
          apply bm<;>intro h)
 all_goals(conv=>whnf)
 all_goals(simp only[aB,aF,HJ]at *;(try simp at h);(try simp);(try simp_all [onS]))
def fS (a b:Int × Int):Bool:=decide (a.1=b.1)&&(decide (a.2=b.2)&&true)
def c8 (s:Sg):Bool:=bF s.1&&bF s.2&&!(fS s.1 s.2)
def X64:Nat × XF:=(164,gX (s1 cS fun s=>(true,.bool (c8 s))))
theorem x64:c7 Tryz.prog X64.1 X64.2:=x1 cS (xl:=[X58]) (.cons x58 .nil) (fun _=>rfl) fun s _=>by
 obtain⟨⟨ax,ay⟩,⟨bx,b_y⟩⟩:=s;unfold dM
 repeat' (conv=>whnf
          apply bm<;>intro h)
 all_goals(conv=>whnf)
 all_goals(simp[aB,aF,fS]at *;simp[c8,fS, *])
def OnS (p:Int × Int)(s:Sg):Bool:=bF p&&c8 s&&onS p s
theorem rX {s:Sg}(h:c8 s=true):jZ s=true:=by
 simp only[c8,jZ,af]at *;exact⟨oN h.1.1,oN h.1.2⟩
def X20:Nat × XF:=(153,gX (s2 cP cS fun p s=>(true,.bool (OnS p s))))
theorem x20:c7 Tryz.prog X20.1 X20.2:=x2 cP cS (xl:=[X58,X64,X65]) (.cons x58 (.cons x64 (.cons x65 .nil))) (fun _ _=>rfl) fun p s hp=>by
 obtain⟨px,py⟩:=p;obtain⟨⟨ax,ay⟩,⟨bx,b_y⟩⟩:=s;unfold dM
 repeat' (conv=>whnf
          apply bm<;>intro h)
 all_goals(conv=>whnf)
 all_goals(simp[aB,aF]at *)
 all_goals first|(simp[OnS, *];done)|(simp_all [OnS,oN,rX];done)
theorem lK {α:Type}(E:El α)(l:List α){i k o:Nat}{v:Value}(hi:i<l.length)(hk:(E.fl l[i])[k]? = some v)(hks:k<E.sz)(ho:o=i*E.sz+k):nth (flat E.fl l) o=some v:=by
 subst ho;have h1:=R4 E l i hi;rw[BR,<- hk,<- h1,List.getElem?_take_of_lt hks,List.getElem?_drop]
def mx (a b:Int):Int:=if a<b then b else a
theorem lS (a b:Int):aB.A.add a b=a+b:=rfl
theorem AU (a b:Int):aB.A.sub a b=a - b:=rfl
theorem PM (a b:Int):aB.A.mul a b=a*b:=rfl
theorem iZ (a b:Int):aB.A.lt a b=decide (a<b):=rfl
theorem B3 (a b:Int):aB.A.le a b=decide (a<=b):=rfl
theorem xR (a b:Int):aB.A.eq a b=decide (a=b):=rfl
theorem gD (k:IntKind)(a:Int):aB.A.fits k a=aN k a:=rfl
theorem gZ (a:Nat):aB.A.num a=(a:Int):=rfl
theorem mW (a b:Bool):aB.A.andB a b=(a&&b):=rfl
theorem jE (a:Bool):aB.A.notB a=!a:=rfl
theorem j5 (a b:Bool):aB.A.eqB a b=(a == b):=rfl
def bI (l:List (Int × Int))(i:Nat):Int × Int:=l.getD i (0,0)
theorem gK {l:List (Int × Int)}{i:Nat}(h:i<l.length):bI l i=l[i]:=by
 unfold bI;rw[List.getD_eq_getElem?_getD,List.getElem?_eq_getElem h];rfl
theorem MH (l:List (Int × Int)){i o:Nat}(hi:i<l.length)(ho:o=i*2):kI (flat aX.fl l) o 2=some [iv (bI l i).1,iv (bI l i).2]:=by
 rw[gK hi];exact qX aX l hi ho
def K7 (s t:Sg):Int × Int:=if iV (bY s).1 (bY t).1<0 then(bY t).1 else(bY s).1
def wY (s t:Sg):Int × Int:=if iV (bY t).2 (bY s).2<0 then(bY t).2 else(bY s).2
def aK8 (o:Int):Int:=if o = -1 then 4 else if o=0 then 1 else 0
def JO (a b c d:Int):Int :=
 if 0<a*b\/0<c*d then 0
 else if(c=0\/d=0)/\(a=0\/b=0)then 1
 else if(c=0\/d=0)\/(a=0\/b=0)then 2
 else 3
def pC (s t:Sg):Int :=
 if bH s.1 s.2 t.1=0/\bH s.1 s.2 t.2=0 then aK8 (iV (K7 s t) (wY s t))
 else JO (bH s.1 s.2 t.1) (bH s.1 s.2 t.2) (bH t.1 t.2 s.1) (bH t.1 t.2 s.2)
def u8 (n:Int):Value:=.int .u8 n
theorem CO (a b:Int × Int):iV a b = -1\/iV a b=0\/iV a b=1:=by
 unfold iV orI jN;split <;> split <;> (try split) <;> (try split) <;> omega
theorem aIx {o:Int}(h:o = -1\/o=0\/o=1){k:Nat}(hk:k=(o+1).toNat):nth [u8 4,u8 1,u8 0] k=some (u8 (aK8 o)):=by
 subst hk;rcases h with rfl|rfl|rfl <;> rfl
theorem aIf (a b:Int × Int):aB.A.fits .i64 (aB.A.add (iV a b) 1)=true:=by
 rcases CO a b with e|e|e <;> rw[e] <;> rfl
theorem aM7 (a b:Int × Int):aB.A.andB (aB.A.le 0 (aB.A.add (iV a b) 1)) (aB.A.lt (aB.A.add (iV a b) 1) (aB.A.num 3))=true:=by
 rcases CO a b with e|e|e <;> rw[e] <;> rfl
def X68:Nat × XF:=(162,gX (s2 cS cS fun s t=>(jZ s&&jZ t,u8 (pC s t))))
theorem x68:c7 Tryz.prog X68.1 X68.2:=x2 cS cS (xl:=[X55,X74,aE7]) (.cons x55 (.cons x74 (.cons aIA .nil))) (fun _ _=>rfl) fun s t hp=>by
 obtain⟨⟨ax,ay⟩,⟨bx,b2⟩⟩:=s;obtain⟨⟨cx,cy⟩,⟨dx,dy⟩⟩:=t;have l1:=oH (ax,ay) (bx,b2) (cx,cy);have l2:=oH (ax,ay) (bx,b2) (dx,dy);have l3:=oH (cx,cy) (dx,dy) (ax,ay);have l4:=oH (cx,cy) (dx,dy) (bx,b2);have m1:=uH (A:=1) (B:=1) l1.1 l1.2 l2.1 l2.2;have m2:=uH (A:=1) (B:=1) l3.1 l3.2 l4.1 l4.2;simp only[jZ,af]at hp;unfold dM
 repeat' (conv=>whnf
          apply bm<;>intro h)
 all_goals(try(refine fD (aIx (CO _ _) (by show 0+(_+1:Int).toNat*1=_;rw[Nat.zero_add,Nat.mul_one])) ?_))
 all_goals(try(conv=>whnf))
 all_goals(clear l3 l4)
 all_goals first
  |(show _=_
    simp only[lS,PM,iZ,xR,gD,j5,mW,jE,B3,gZ,aN,HJ,af,beq_iff_eq,beq_eq_false_iff_ne,ne_eq,ag,decide_eq_false_iff_not,not_and,Bool.not_eq_true',Bool.not_eq_false']at *;simp only[pC,JO,K7,wY]
    simp_all [u8,iv]
    done)
  |(show _=_
    simp only[iZ,xR,j5,HJ,beq_iff_eq,ag,decide_eq_false_iff_not]at *;simp only[pC,K7,wY, *,and_self,if_true,if_false]
    done)
  |(rw[aIf]at h;cases h)
  |(rw[aM7]at h;cases h)
  |(simp[hp]at h;done)
  |(simp only[PM,gD,aN,HJ,Bool.eq_false_iff,ne_eq,af,ag]at h;omega)
  |skip
 trace_state
def btw (n a b:Int):Bool:=decide ((if b<a then b else a)<=n)&&decide (n<=(if a<b then b else a))
def aLW:Nat × XF:=(214,gX (s3 cI cI cI fun n a b=>(true,.bool (btw n a b))))
theorem aR5:c7 Tryz.prog aLW.1 aLW.2:=x3 cI cI cI (xl:=[]) .nil (fun _ _ _=>rfl) fun n a b _=>by
 unfold dM
 repeat' (conv=>whnf
          apply bm<;>intro h)
 all_goals(conv=>whnf)
 all_goals(simp only[aB,aF]at *;(try simp at h);(try simp);simp_all [btw] <;> omega)
def rR (p:Int × Int)(s:Sg):Bool:=btw p.1 s.1.1 s.2.1&&btw p.2 s.1.2 s.2.2&&decide (bH s.1 s.2 p=0)
def X67:Nat × XF:=(184,gX (s2 cP cS fun p s=>(wide p&&jZ s,.bool (rR p s))))
theorem x67:c7 Tryz.prog X67.1 X67.2:=x2 cP cS (xl:=[aLW,X57]) (.cons aR5 (.cons x57 .nil)) (fun _ _=>rfl) fun p s hp=>by
 obtain⟨px,py⟩:=p;obtain⟨⟨ax,ay⟩,⟨bx,b_y⟩⟩:=s;simp only[jZ,af]at hp;unfold dM
 repeat' (conv=>whnf
          apply bm<;>intro h)
 all_goals(conv=>whnf)
 all_goals(simp only[aB,aF,HJ]at *;(try simp at h);(try simp);(try simp_all [rR]))
def X66:Nat × XF:=(157,gX (s1 cS fun s=>(true,.bool (c8 s))))
theorem x66:c7 Tryz.prog X66.1 X66.2:=x1 cS (xl:=[X56]) (.cons x56 .nil) (fun _=>rfl) fun s _=>by
 obtain⟨⟨ax,ay⟩,⟨bx,b_y⟩⟩:=s;unfold dM
 repeat' (conv=>whnf
          apply bm<;>intro h)
 all_goals(conv=>whnf)
 all_goals(simp[aB,aF,fS]at *;simp[c8,fS, *])
def OnR (p:Int × Int)(s:Sg):Bool:=bF p&&c8 s&&rR p s
def X21:Nat × XF:=(134,gX (s2 cP cS fun p s=>(true,.bool (OnR p s))))
theorem x21:c7 Tryz.prog X21.1 X21.2:=x2 cP cS (xl:=[X56,X66,X67]) (.cons x56 (.cons x66 (.cons x67 .nil))) (fun _ _=>rfl) fun p s hp=>by
 obtain⟨px,py⟩:=p;obtain⟨⟨ax,ay⟩,⟨bx,b_y⟩⟩:=s;unfold dM
 repeat' (conv=>whnf
          apply bm<;>intro h)
 all_goals(conv=>whnf)
 all_goals(simp[aB,aF]at *)
 all_goals first|(simp[OnR, *];done)|(simp_all [OnR,oN,rX];done)
theorem DW (a b:Int × Int):iV a b<=0↔a.1<b.1\/(a.1=b.1/\a.2<=b.2):=by
 unfold iV orI jN;split <;> split <;> (try split) <;> (try split) <;> omega
theorem pB (a b c:Int × Int):bH a b c=0↔bO a b c=0:=by
 unfold bH sgn;split <;> (try split) <;> omega
theorem aBU (p:Int × Int)(s:Sg)(h:c8 s=true):onS p s=rR p s:=by
 obtain⟨px,py⟩:=p;obtain⟨⟨ax,ay⟩,⟨bx,b2⟩⟩:=s;have hne:¬(ax=bx/\ay=b2):=by
  simp only[c8,fS,af,Bool.not_eq_true',Bool.and_true,Bool.and_eq_false_imp,ag,decide_eq_false_iff_not]at h;intro⟨e1,e2⟩;exact h.2 e1 e2
 clear h;unfold onS rR NN;by_cases hc:bH (ax,ay) (bx,b2) (px,py)=0
 ·have hcr:=(pB _ _ _).1 hc;simp only[bO]at hcr;rw[ai hc,Bool.true_and,Bool.and_true,Bool.eq_iff_iff];simp only[btw,af,ag,DW];by_cases h1:ax<bx
  ·have he:bY ((ax,ay),(bx,b2))=((ax,ay),(bx,b2)):=by
    unfold bY;rw[if_neg];have:=(DW (ax,ay) (bx,b2)).2 (.inl h1);simp only at *;omega
   rw[he];have hb:=aBt (ax:=ax) (ay:=ay) (bx:=bx) (b2:=b2) (px:=px) (py:=py) aa h1;simp only at *;rw[hb];omega
  by_cases h2:bx<ax
  ·have he:bY ((ax,ay),(bx,b2))=((bx,b2),(ax,ay)):=by
    unfold bY;rw[if_pos];have:=(DW (ax,ay) (bx,b2));simp only at *;omega
   rw[he];have hsw:=XU (ax,ay) (bx,b2) (px,py);simp only[bO]at hsw;have hb:=aBt (ax:=bx) (ay:=b2) (bx:=ax) (b2:=ay) (px:=px) (py:=py) aa h2;simp only at *;rw[hb];omega
  have hx:ax=bx:=aa;subst hx;have hE:b2 - ay≠0:=aa;rw[Int.sub_self,Int.zero_mul]at hcr;have ht:px - ax=0:=aGQ (D:=b2 - ay) aa hE;have hpx:px=ax:=aa;subst hpx;by_cases h3:ay<b2
  ·have he:bY ((px,ay),(px,b2))=((px,ay),(px,b2)):=by
    unfold bY;rw[if_neg];have:=(DW (px,ay) (px,b2)).2 (.inr ⟨rfl,aa⟩);simp only at *;omega
   rw[he];have h4:¬(b2<ay):=aa;simp only[Int.lt_irrefl,if_false,h3,h4,if_true];simp
  have he:bY ((px,ay),(px,b2))=((px,b2),(px,ay)):=by
   unfold bY;rw[if_pos];have:=(DW (px,ay) (px,b2));simp only at *;omega
  rw[he];have h4:b2<ay:=aa;simp only[Int.lt_irrefl,if_false,h3,h4,if_true];simp
 simp[hc]
end Go.Aw
end

noncomputable section
namespace Go.Aw
open Proofs
open Go.RowKit
def mv (k0 q:Nat):Nat->Nat:=fun k=>match Nat.beq k k0 with|true=>q|false=>k
theorem TD {k0 q k:Nat}(h:k≠k0):mv k0 q k=k:=by
 unfold mv;split
 ·rename_i hb;exact absurd (az hb) h
 rfl
theorem aKk (k0 q:Nat):mv k0 q k0=q:=by
 unfold mv;rw[Nat.beq_refl]
theorem mN {b n0 nx:Nat}{I:KS}{e0 e:List (Nat × Value)}{h0 h:Heap}(k0 q:Nat)(hb:b<=k0)(hbn:b<=n0)(hI:I e0 h0 n0)(he:∀ p∈e0,aw e p.1=some (fJ (mv k0 q) p.2)/\BO n0 p.2)
  (hh:∀ p∈h0,p.1<n0/\∃ o',aw h (mv k0 q p.1)=some o'/\cK (mv k0 q) n0 p.2 o') (hq:∀ p∈h0,p.1≠k0->p.1≠q):sW b I e h nx:=by
 refine⟨e0,h0,n0,mv k0 q,hI,fun t v hv=>he (t,v) (aT hv),fun k o hk=>hh (k,o) (aT hk),fun k k' o o' hk hk' e=>?_,fun k hk=>TD aa,hbn⟩;by_cases h1:k=k0
 ·by_cases h2:k'=k0
  ·rw[h1,h2]
  subst h1;rw[aKk,TD h2]at e;exact absurd e.symm (hq (k',o') (aT hk') h2)
 by_cases h2:k'=k0
 ·subst h2;rw[aKk,TD h1]at e;exact absurd e (hq (k,o) (aT hk) h1)
 rw[TD h1,TD h2]at e;exact e
def mH:Option Int->Value->Value
 |none,v=>v
 |some e,v=>.tuple #[v,.int .i64 e]
section
variable {α:Type}(E:El α)
def fX (s:List Value->Option (Bool × List α × Option Int)):XF:=fun args h nx K=>match s args with
 |some p=>eF p.1 (match p.2.1 with
  |[]=>K (mH p.2.2 (.slice none 0 0)) h nx
  |a::r=>K (mH p.2.2 (ak nx (a::r).length (a::r).length)) (cO h nx (.cells true false E.sz (flat E.fl (a::r)))) (nx+1))
 |none=>False
def Yields (l:List α)(e:Option Int):KE:=fun v h _=>match l with
 |[]=>v=mH e (.slice none 0 0)
 |a::r=>∃ q,v=mH e (.slice (some ⟨q,0,none⟩) (a::r).length (a::r).length)/\aw h q=some (.cells true false E.sz (flat E.fl (a::r)))
theorem zG {ρ:Nat->Nat}(e:Option Int){k n c:Nat}:fJ ρ (mH e (.slice (some ⟨k,0,none⟩) n c))=mH e (.slice (some ⟨ρ k,0,none⟩) n c):=by
 cases e with
 |none=>rfl
 |some e=>simp[mH,fJ,tr,eK,cF,eM,j4]
theorem yU (e:Option Int):gT (mH e (.slice none 0 0))=true:=by cases e <;> rfl
theorem TK (e:Option Int)(n c:Nat):BO 1 (mH e (ak 0 n c)):=by
 cases e with
 |none=>exact⟨Nat.one_pos,fun h=>by cases h⟩
 |some e =>
  intro v hv;simp at hv;rcases hv with rfl|rfl
  ·exact⟨Nat.one_pos,fun h=>by cases h⟩
  trivial
theorem aOA {P:Program}{C:VC}{f:Nat}{s:List Value->Option (Bool × List α × Option Int)}(hC:bN P C)
  (hs:∀ args l e,s args=some (true,l,e)->fI args=true/\C f args [] 0 (Yields E l e)):c7 P f (fX E s):=by
 refine(eJ (S:=fun args0 h0 n0 v1 h1 m=>∃ l e,s args0=some (true,l,e)/\h0=[]/\n0=0/\(match l with
  |[]=>v1=mH e (.slice none 0 0)/\h1=[]/\m=0
  |a::r=>v1=mH e (ak 0 (a::r).length (a::r).length)/\h1=[(0,.cells true false E.sz (flat E.fl (a::r)))]/\m=1)) hC ?_).mono ?_ ?_
 ·rintro args0 h0 n0 v1 h1 m ⟨l,e,e1,rfl,rfl,hl⟩;obtain⟨a1,a2⟩:=hs args0 l e e1;cases l with
  |nil =>
   obtain⟨rfl,rfl,rfl⟩:=hl;exact⟨rfl,_,a2,fun v h nx hv=>by rw[show v=_ from hv];exact gM (yU e)⟩
  |cons a r =>
   obtain⟨rfl,rfl,rfl⟩:=hl;refine⟨rfl,_,a2,fun v h nx hv=>?_⟩;obtain⟨q,rfl,hq⟩:=hv;refine⟨fun _=>q,⟨fun t u hu=>?_,fun k o hk=>?_,fun k k' o o' hk hk' _=>?_,fun k hk=>absurd hk (Nat.not_lt_zero k),Nat.zero_le _⟩⟩
   ·rw[aD]at hu;split at hu
    ·rename_i hb;injection hu with hu;subst hu;exact⟨by rw[aD,hb,zG],TK e _ _⟩
    exact cA hu
   ·rw[aD]at hk;split at hk
    ·rename_i hb;injection hk with hk;subst hk;exact⟨by rw[<- az hb];exact Nat.one_pos,_,hq,aE (aC E _)⟩
    exact cA hk
   rw[aD]at hk hk';split at hk
   ·rename_i hb1;split at hk'
    ·rename_i hb2;exact(az hb1).symm.trans (az hb2)
    exact cA hk'
   exact cA hk
 ·intro args h nx K hx;unfold fX at hx;split at hx
  case h_2=>exact hx.elim
  rename_i p e1;obtain⟨b,l,e⟩:=p;obtain⟨rfl,hx⟩:=aH.1 hx;obtain⟨a1,a2⟩:=hs args l e e1;cases l with
  |nil =>
   refine⟨args,[],0,_,[],0,⟨[],e,e1,rfl,rfl,rfl,rfl,rfl⟩,aNz fun u hu=>cD a1 hu,?_⟩;simp only[qY,pF,nK,lL,lJ (yU e),Nat.add_zero];exact hx
  |cons a r =>
   refine⟨args,[],0,_,[(0,.cells true false E.sz (flat E.fl (a::r)))],1,⟨a::r,e,e1,rfl,rfl,rfl,rfl,rfl⟩,aNz fun u hu=>cD a1 hu,?_⟩;have hm:(flat E.fl (a::r)).map (cB (fun k=>nx+k))=flat E.fl (a::r):=bK (aC E _);simp only[qY,pF,V4,Bool.and_self,nK,WG,hm,zG,Nat.add_zero];exact hx
 intro args h nx K hx;unfold fX at hx;split at hx
 case h_2=>exact hx.elim
 rename_i p e1;obtain⟨hb,hx⟩:=aH.1 hx;cases hl:p.2.1 with
 |nil =>
  rw[hl]at hx;exact⟨_,_,_,hx,fun K' hk=>by unfold fX;rw[e1];simp only[hl];exact aM hb hk⟩
 |cons a r =>
  rw[hl]at hx;exact⟨_,_,_,hx,fun K' hk=>by unfold fX;rw[e1];simp only[hl];exact aM hb hk⟩
end
end Go.Aw
end

namespace Go.Aw
open Proofs
theorem par {ex ey ux uy wx wy:Int}(h:ex*uy=ey*ux):ex*(wx*uy - wy*ux)=ux*(wx*ey - wy*ex):=by
 have h1:ex*(wx*uy)=wx*(ey*ux):=(by rw[<- h,<- Int.mul_assoc,Int.mul_comm ex wx,Int.mul_assoc]);rw[Int.mul_sub,Int.mul_sub,h1];congr 1
 ·rw[<- Int.mul_assoc,Int.mul_comm (wx*ey),<- Int.mul_assoc,Int.mul_comm ux]
 rw[<- Int.mul_assoc,Int.mul_comm ex,Int.mul_assoc,Int.mul_comm ex,<- Int.mul_assoc,Int.mul_comm wy,Int.mul_assoc]
theorem aOt {ex ux q r:Int}(he:0<ex)(h:ex*q=ux*r)(hne:¬(q=0/\r - q=0)):(0<=ux/\ux<=ex)↔(0<=q*(r - q)):=by
 have hr:r≠0:=by
  intro hr;subst hr;rw[Int.mul_zero]at h;have:q=0:=by
   rcases Int.mul_eq_zero.1 h with h|h
   ·omega
   exact h
  exact hne ⟨this,aa⟩
 have e2:ex*(r - q)=(ex - ux)*r:=(by rw[Int.mul_sub,Int.sub_mul,h]);have key:(ex*ex)*(q*(r - q))=(ux*(ex - ux))*(r*r):=by
  calc(ex*ex)*(q*(r - q))=(ex*q)*(ex*(r - q)):=by rw[Int.mul_assoc,Int.mul_assoc,<- Int.mul_assoc ex q,Int.mul_comm ex q,Int.mul_assoc q ex]
   _=(ux*r)*((ex - ux)*r):=by rw[h,e2]
   _=(ux*(ex - ux))*(r*r):=by rw[Int.mul_assoc,Int.mul_assoc,<- Int.mul_assoc r,Int.mul_comm r (ex - ux),Int.mul_assoc (ex - ux)]
 have hrr:0<r*r:=by
  rcases Int.lt_or_gt_of_ne hr with h|h
  ·exact Int.mul_pos_of_neg_of_neg h h
  exact Int.mul_pos h h
 have hee:0<ex*ex:=Int.mul_pos he he;constructor
 ·intro⟨h1,h2⟩;have h3:0<=(ux*(ex - ux))*(r*r):=Int.mul_nonneg (Int.mul_nonneg h1 aa) aa;rw[<- key]at h3;by_cases hq:0<=q*(r - q)
  ·exact hq
  have:(ex*ex)*(q*(r - q))<0:=Int.mul_neg_of_pos_of_neg hee aa;omega
 intro hq;have h3:0<=(ex*ex)*(q*(r - q)):=Int.mul_nonneg aa hq;rw[key]at h3;have h4:0<=ux*(ex - ux):=by
  by_cases h4:0<=ux*(ex - ux)
  ·exact h4
  have:(ux*(ex - ux))*(r*r)<0:=Int.mul_neg_of_neg_of_pos aa hrr;omega
 constructor
 ·by_cases h5:0<=ux
  ·exact h5
  have:ux*(ex - ux)<0:=Int.mul_neg_of_neg_of_pos aa aa;omega
 by_cases h5:ux<=ex
 ·exact h5
 have:ux*(ex - ux)<0:=Int.mul_neg_of_pos_of_neg aa aa;omega
end Go.Aw

namespace Go.Aw
open Proofs
theorem QY {a b:Int}(ha:0<a)(h:0<=a*b):0<=b:=by
 by_cases hb:0<=b
 ·exact hb
 have:a*b<0:=Int.mul_neg_of_pos_of_neg ha aa;omega
theorem aRu {ex ey ux uy:Int}(he:0<ex)(h:ex*uy=ey*ux)(h0:0<=ux)(h1:ux<=ex):(0<=ey->0<=uy/\uy<=ey)/\(ey<=0->ey<=uy/\uy<=0):=by
 have e2:ex*(ey - uy)=ey*(ex - ux):=by
  rw[Int.mul_sub,Int.mul_sub,h,Int.mul_comm ex ey]
 constructor
 ·intro hy;constructor
  ·exact QY he (by rw[h];exact Int.mul_nonneg hy h0)
  have:=QY he (show 0<=ex*(ey - uy) by rw[e2];exact Int.mul_nonneg hy aa);omega
 intro hy;constructor
 ·have:0<=ex*(uy - ey):=by
   have:ex*(uy - ey)=(-ey)*(ex - ux):=by
    rw[Int.neg_mul,<- e2,<- Int.mul_neg];congr 1;omega
   rw[this];exact Int.mul_nonneg aa aa
  have:=QY he this;omega
 have:0<=ex*(-uy):=by
  rw[Int.mul_neg,h,<- Int.neg_mul];exact Int.mul_nonneg aa h0
 have:=QY he this;omega
def SQ (e u:Int):Prop:=(if 0<e then 0 else e)<=u/\u<=(if e<0 then 0 else e)
theorem IX {e u:Int}:SQ (-e) (-u)↔SQ e u:=by
 unfold SQ;split <;> split <;> split <;> split <;> omega
theorem aIO {e u:Int}(h:0<e):SQ e u↔(0<=u/\u<=e):=by
 unfold SQ;split <;> split <;> omega
theorem B2 {ex ey ux uy q r:Int}(he:0<ex)(h:ex*uy=ey*ux)(h1:ex*q=ux*r)(hne:¬(q=0/\r - q=0)):(SQ ex ux/\SQ ey uy)↔0<=q*(r - q):=by
 rw[<- aOt he h1 hne,aIO he];constructor
 ·exact fun h=>h.1
 intro h2;refine⟨h2,?_⟩;obtain⟨k1,k2⟩:=aRu he h h2.1 h2.2;unfold SQ;by_cases hy:0<=ey
 ·have:=k1 hy;split <;> split <;> omega
 have:=k2 aa;split <;> split <;> omega
theorem aIy {ex ey ux uy q r:Int}(he:¬(ex=0/\ey=0))(h:ex*uy=ey*ux)(h1:ex*q=ux*r)(h2:ey*q=uy*r)(hne:¬(q=0/\r - q=0)):(SQ ex ux/\SQ ey uy)↔0<=q*(r - q):=by
 by_cases a1:0<ex
 ·exact B2 a1 h h1 hne
 by_cases a2:ex<0
 ·rw[<- IX (e:=ex),<- IX (e:=ey)];exact B2 aa (by rw[Int.neg_mul_neg,Int.neg_mul_neg,h]) (by rw[Int.neg_mul,Int.neg_mul,h1]) hne
 by_cases a3:0<ey
 ·rw[And.comm];exact B2 a3 h.symm h2 hne
 rw[<- IX (e:=ex),<- IX (e:=ey),And.comm];exact B2 aa (by rw[Int.neg_mul_neg,Int.neg_mul_neg,h]) (by rw[Int.neg_mul,Int.neg_mul,h2]) hne
theorem once {ex ey wx wy vx vy:Int}(hd:ex*wy - ey*wx≠0)(h1:ex*vy=ey*vx)(h2:wx*vy=wy*vx):vx=0/\vy=0:=by
 constructor
 ·have:(ex*wy - ey*wx)*vx=0:=by
   rw[Int.sub_mul,Int.mul_assoc,<- h2,Int.mul_right_comm ey,<- h1,Int.mul_assoc,Int.mul_comm vy,Int.sub_self]
  rcases Int.mul_eq_zero.1 this with h|h
  ·exact absurd h hd
  exact h
 have:(ex*wy - ey*wx)*vy=0:=by
  rw[Int.sub_mul,Int.mul_assoc ey,h2,Int.mul_right_comm ex,h1,<- Int.mul_assoc,Int.mul_right_comm ey,Int.sub_self]
 rcases Int.mul_eq_zero.1 this with h|h
 ·exact absurd h hd
 exact h
theorem para {ex ey wx wy vx vy:Int}(hw:¬(wx=0/\wy=0))(h1:wx*ey=wy*ex)(h2:wx*vy=wy*vx):ex*vy=ey*vx:=by
 have k1:wx*(ex*vy - ey*vx)=0:=by
  rw[Int.mul_sub,<- Int.mul_assoc,Int.mul_right_comm,h2,<- Int.mul_assoc,h1,Int.mul_right_comm,Int.sub_self]
 have k2:wy*(ex*vy - ey*vx)=0:=by
  rw[Int.mul_sub,<- Int.mul_assoc,<- h1,Int.mul_left_comm wy,<- h2,Int.mul_left_comm ey,Int.mul_assoc,Int.sub_self]
 by_cases h:wx=0
 ·rcases Int.mul_eq_zero.1 k2 with h'|h'
  ·exact absurd ⟨h,h'⟩ hw
  omega
 ·rcases Int.mul_eq_zero.1 k1 with h'|h'
  ·exact absurd h' h
  omega
end Go.Aw

namespace Go.Aw
open Proofs
def j6 (p:Int × Int):List (Int × Int)->Bool
 |[]=>false
 |q::r=>fS q p || j6 p r
def m9 (s t:Sg)(out:List (Int × Int))(p:Int × Int):List (Int × Int):=if rR p s=true/\rR p t=true/\j6 p out=false then out++[p]else out
def l7 (s t:Sg):List (Int × Int):=m9 s t (m9 s t (m9 s t (m9 s t [] s.1) s.2) t.1) t.2
theorem eL (a b:Int × Int):fS a b=true↔a=b:=by
 obtain⟨a1,a2⟩:=a;obtain⟨b1,b2⟩:=b;simp[fS]
theorem aBP (n a b:Int):btw n a b=true↔SQ (b - a) (n - a):=by
 simp only[btw,SQ,af,ag];split <;> split <;> (try split) <;> (try split) <;> omega
theorem aIb {ax ay bx b2 px py wx wy c d:Int}(hne:¬(bx - ax=0/\b2 - ay=0))(h0:(bx - ax)*(py - ay) - (b2 - ay)*(px - ax)=0)
  (hc:c=wx*(ay - py) - wy*(ax - px)) (hd:d=wx*(b2 - py) - wy*(bx - px)) (hn:¬(c=0/\d=0)):(btw px ax bx=true/\btw py ay b2=true)↔c*d<=0:=by
 have h:(bx - ax)*(py - ay)=(b2 - ay)*(px - ax):=aa;have p1:=par (wx:=wx) (wy:=wy) h;have p2:=par (wx:=wy) (wy:=wx) h.symm;have q1:wx*(py - ay) - wy*(px - ax) = -c:=by
  subst hc;simp only[Int.mul_sub];omega
 have q2:wy*(px - ax) - wx*(py - ay)=c:=aa;have r1:wx*(b2 - ay) - wy*(bx - ax)=d - c:=by
  subst hc hd;simp only[Int.mul_sub];omega
 have r2:wy*(bx - ax) - wx*(b2 - ay) = -(d - c):=aa;rw[q1,r1]at p1;rw[q2,r2]at p2;have p3:(b2 - ay)*(-c)=(py - ay)*(d - c):=by
  rw[Int.mul_neg,p2,Int.mul_neg,Int.neg_neg]
 rw[aBP,aBP,aIy hne h p1 p3 aa];have:d - c - -c=d:=aa;rw[this,Int.neg_mul];omega
theorem aJj (a b:Int):sgn a*sgn b<=0↔a*b<=0:=by
 unfold sgn
 by_cases a1:a<0 <;> by_cases a2:0<a <;> by_cases b1:b<0 <;> by_cases b2:0<b <;> simp only[a1,a2,b1,b2,if_true,if_false] <;>
  first
  |(exfalso;omega)
  |(have:=Int.mul_pos_of_neg_of_neg a1 b1;omega)
  |(have:=Int.mul_neg_of_neg_of_pos a1 b2;omega)
  |(have:=Int.mul_neg_of_pos_of_neg a2 b1;omega)
  |(have:=Int.mul_pos a2 b2;omega)
  |(have:a=0:=aa
    subst this;simp)
  |(have:b=0:=aa
    subst this;simp)
theorem qZ (a b p q:Int × Int)(h:q=a\/q=b):bO a b p=(b.1 - a.1)*(p.2 - q.2) - (b.2 - a.2)*(p.1 - q.1):=by
 rcases h with rfl|rfl
 ·rfl
 have e1:p.2 - a.2=(p.2 - q.2)+(q.2 - a.2):=aa;have e2:p.1 - a.1=(p.1 - q.1)+(q.1 - a.1):=aa;have e3:=Int.mul_comm (q.1 - a.1) (q.2 - a.2);rw[bO,e1,e2,Int.mul_add,Int.mul_add];omega
theorem B6 (s t:Sg)(p:Int × Int)(hp:p=t.1\/p=t.2)(hs:s.1≠s.2)(h0:bH s.1 s.2 p=0)(hn:¬(bH t.1 t.2 s.1=0/\bH t.1 t.2 s.2=0)) :
  rR p s=decide (bH t.1 t.2 s.1*bH t.1 t.2 s.2<=0):=by
 have k:=aIb (wx:=t.2.1 - t.1.1) (wy:=t.2.2 - t.1.2) (px:=p.1) (py:=p.2) (ax:=s.1.1) (ay:=s.1.2) (bx:=s.2.1) (b2:=s.2.2) (by
  intro h;apply hs;exact Prod.ext aa aa) ((pB _ _ _).1 h0) (qZ t.1 t.2 s.1 p hp) (qZ t.1 t.2 s.2 p hp) (by
  rw[pB,pB]at hn;exact hn)
 rw[Bool.eq_iff_iff,ag];unfold bH;rw[aJj,<- k,rR,h0];simp
theorem IV (s:Sg)(p:Int × Int)(h0:bH s.1 s.2 p≠0):rR p s=false:=by
 unfold rR;simp[h0]
theorem lO (s:Sg)(p:Int × Int)(hp:p=s.1\/p=s.2):rR p s=true:=by
 have h0:bH s.1 s.2 p=0:=by
  rw[pB,bO];rcases hp with rfl|rfl
  ·simp
  rw[Int.mul_comm];omega
 have hb:∀ a b:Int,btw a a b=true/\btw b a b=true:=by
  intro a b;simp only[btw,af,ag];split <;> split <;> omega
 unfold rR;rw[h0];rcases hp with rfl|rfl
 ·simp[(hb _ _).1]
 simp[(hb _ _).2]
theorem MJ (s t:Sg)(p:Int × Int)(hp:p=t.1\/p=t.2)(ht:t.1≠t.2)(h1:bH t.1 t.2 s.1=0)(h2:bH t.1 t.2 s.2=0):bH s.1 s.2 p=0:=by
 rw[pB,qZ t.1 t.2 _ p hp]at h1 h2;have hw:¬(t.2.1 - t.1.1=0/\t.2.2 - t.1.2=0):=by
  intro h;apply ht;exact Prod.ext aa aa
 have e1:(t.2.1 - t.1.1)*(s.2.2 - s.1.2)=(t.2.2 - t.1.2)*(s.2.1 - s.1.1):=by
  rw[(aa:s.2.2 - s.1.2=(s.2.2 - p.2) - (s.1.2 - p.2)),(aa:s.2.1 - s.1.1=(s.2.1 - p.1) - (s.1.1 - p.1)),Int.mul_sub,Int.mul_sub (t.2.2 - t.1.2)];omega
 have e2:(t.2.1 - t.1.1)*(p.2 - s.1.2)=(t.2.2 - t.1.2)*(p.1 - s.1.1):=by
  rw[(aa:p.2 - s.1.2 = -(s.1.2 - p.2)),(aa:p.1 - s.1.1 = -(s.1.1 - p.1)),Int.mul_neg,Int.mul_neg];omega
 have:=para hw e1 e2;rw[pB,bO];omega
theorem zL (s t:Sg)(ht:t.1≠t.2)(h:bH t.1 t.2 s.1=0/\bH t.1 t.2 s.2=0):bH s.1 s.2 t.1=0/\bH s.1 s.2 t.2=0 :=
 ⟨MJ s t _ (.inl rfl) ht h.1 h.2,MJ s t _ (.inr rfl) ht h.1 h.2⟩
theorem y0 (s t:Sg)(p q:Int × Int)(hp:p=s.1\/p=s.2)(hq:q=t.1\/q=t.2)(h1:bH t.1 t.2 p=0)(h2:bH s.1 s.2 q=0)(hn:¬(bH s.1 s.2 t.1=0/\bH s.1 s.2 t.2=0)):p=q:=by
 rw[pB,qZ t.1 t.2 _ q hq]at h1;have h2':=h2;rw[pB,qZ s.1 s.2 _ p hp]at h2;have hd:(s.2.1 - s.1.1)*(t.2.2 - t.1.2) - (s.2.2 - s.1.2)*(t.2.1 - t.1.1)≠0:=by
  intro hd;apply hn;have e0:bO s.1 s.2 t.2=bO s.1 s.2 t.1:=by
   rw[bO,bO,(aa:t.2.2 - s.1.2=(t.2.2 - t.1.2)+(t.1.2 - s.1.2)),(aa:t.2.1 - s.1.1=(t.2.1 - t.1.1)+(t.1.1 - s.1.1)),Int.mul_add,Int.mul_add];omega
  rw[pB]at h2';rw[pB,pB,e0];rcases hq with rfl|rfl
  ·exact⟨h2',h2'⟩
  rw[<- e0];exact⟨h2',h2'⟩
 have e2:(t.2.1 - t.1.1)*(q.2 - p.2)=(t.2.2 - t.1.2)*(q.1 - p.1):=by
  rw[(aa:q.2 - p.2 = -(p.2 - q.2)),(aa:q.1 - p.1 = -(p.1 - q.1)),Int.mul_neg,Int.mul_neg];omega
 have:=once hd aa e2;exact Prod.ext aa aa
def qP (s t:Sg):Int:=match l7 s t with
 |[]=>if bH s.1 s.2 t.1*bH s.1 s.2 t.2<0/\bH t.1 t.2 s.1*bH t.1 t.2 s.2<0 then 3 else 0
 |[p]=>if(fS p s.1=true\/fS p s.2=true)/\(fS p t.1=true\/fS p t.2=true)then 1 else 2
 |_::_::_=>4
theorem j7 (a b:Int × Int):fS a b=false↔a≠b:=by
 rw[ne_eq,<- eL];simp
theorem aGc (s t:Sg)(hs:s.1≠s.2)(ht:t.1≠t.2)(hn:¬(bH s.1 s.2 t.1=0/\bH s.1 s.2 t.2=0)):pC s t=qP s t:=by
 have hn':¬(bH t.1 t.2 s.1=0/\bH t.1 t.2 s.2=0):=fun h=>hn (zL s t ht h);have b3:=fun h0=>B6 s t t.1 (.inl rfl) hs h0 hn';have b4:=fun h0=>B6 s t t.2 (.inr rfl) hs h0 hn';have b1:=fun h0=>B6 t s s.1 (.inl rfl) ht h0 hn;have b2:=fun h0=>B6 t s s.2 (.inr rfl) ht h0 hn;have f3:=IV s t.1;have f4:=IV s t.2;have f1:=IV t s.1;have f2:=IV t s.2;have o13:=y0 s t s.1 t.1 (.inl rfl) (.inl rfl);have o14:=y0 s t s.1 t.2 (.inl rfl) (.inr rfl);have o23:=y0 s t s.2 t.1 (.inr rfl) (.inl rfl);have o24:=y0 s t s.2 t.2 (.inr rfl) (.inr rfl);have g1:=lO s s.1 (.inl rfl);have g2:=lO s s.2 (.inr rfl);have g3:=lO t t.1 (.inl rfl);have g4:=lO t t.2 (.inr rfl);have z1:bH s.1 s.2 s.1=0:=(by rw[pB,bO];simp);have z2:bH s.1 s.2 s.2=0:=(by rw[pB,bO,Int.mul_comm];omega);have z3:bH t.1 t.2 t.1=0:=(by rw[pB,bO];simp);have z4:bH t.1 t.2 t.2=0:=(by rw[pB,bO,Int.mul_comm];omega);have rf:∀ p,fS p p=true:=fun p=>(eL p p).2 rfl;have n1:bH s.1 s.2 t.1≠0->fS s.1 t.1=false/\fS s.2 t.1=false/\fS t.1 s.1=false/\fS t.1 s.2=false:=fun h=>by
  rw[j7,j7,j7,j7];exact⟨fun e=>h (e▸z1),fun e=>h (by rw[<- e];exact z2),fun e=>h (e▸z1),fun e=>h (by rw[e];exact z2)⟩
 have n2:bH s.1 s.2 t.2≠0->fS s.1 t.2=false/\fS s.2 t.2=false/\fS t.2 s.1=false/\fS t.2 s.2=false:=fun h=>by
  rw[j7,j7,j7,j7];exact⟨fun e=>h (e▸z1),fun e=>h (by rw[<- e];exact z2),fun e=>h (e▸z1),fun e=>h (by rw[e];exact z2)⟩
 have n3:bH t.1 t.2 s.1≠0->fS s.1 t.1=false/\fS s.1 t.2=false/\fS t.1 s.1=false/\fS t.2 s.1=false:=fun h=>by
  rw[j7,j7,j7,j7];exact⟨fun e=>h (by rw[e];exact z3),fun e=>h (by rw[e];exact z4),fun e=>h (by rw[<- e];exact z3),fun e=>h (by rw[<- e];exact z4)⟩
 have n4:bH t.1 t.2 s.2≠0->fS s.2 t.1=false/\fS s.2 t.2=false/\fS t.1 s.2=false/\fS t.2 s.2=false:=fun h=>by
  rw[j7,j7,j7,j7];exact⟨fun e=>h (by rw[e];exact z3),fun e=>h (by rw[e];exact z4),fun e=>h (by rw[<- e];exact z3),fun e=>h (by rw[<- e];exact z4)⟩
 have o13':bH t.1 t.2 s.1=0->bH s.1 s.2 t.1=0->fS s.1 t.1=true/\fS t.1 s.1=true:=fun h h'=>by
  have:=o13 h h' hn;rw[eL,eL];exact⟨this,this.symm⟩
 have o14':bH t.1 t.2 s.1=0->bH s.1 s.2 t.2=0->fS s.1 t.2=true/\fS t.2 s.1=true:=fun h h'=>by
  have:=o14 h h' hn;rw[eL,eL];exact⟨this,this.symm⟩
 have o23':bH t.1 t.2 s.2=0->bH s.1 s.2 t.1=0->fS s.2 t.1=true/\fS t.1 s.2=true:=fun h h'=>by
  have:=o23 h h' hn;rw[eL,eL];exact⟨this,this.symm⟩
 have o24':bH t.1 t.2 s.2=0->bH s.1 s.2 t.2=0->fS s.2 t.2=true/\fS t.2 s.2=true:=fun h h'=>by
  have:=o24 h h' hn;rw[eL,eL];exact⟨this,this.symm⟩
 clear o13 o14 o23 o24 z1 z2 z3 z4;unfold pC;rw[if_neg hn];generalize hA:bH s.1 s.2 t.1=A at *;generalize hB:bH s.1 s.2 t.2=B at *;generalize hC:bH t.1 t.2 s.1=C at *;generalize hD:bH t.1 t.2 s.2=D at *;unfold qP l7;rw[hA,hB,hC,hD];by_cases h:0<A*B\/0<C*D
 ·have p3:rR t.1 s=false:=by
   by_cases h0:A=0
   ·rw[b3 h0,decide_eq_false_iff_not];subst h0;simp at h;omega
   exact f3 h0
  have p4:rR t.2 s=false:=by
   by_cases h0:B=0
   ·rw[b4 h0,decide_eq_false_iff_not];subst h0;simp at h;omega
   exact f4 h0
  have p1:rR s.1 t=false:=by
   by_cases h0:C=0
   ·rw[b1 h0,decide_eq_false_iff_not];subst h0;simp at h;omega
   exact f1 h0
  have p2:rR s.2 t=false:=by
   by_cases h0:D=0
   ·rw[b2 h0,decide_eq_false_iff_not];subst h0;simp at h;omega
   exact f2 h0
  unfold JO;rw[if_pos h];simp only[m9,p1,p2,p3,p4,g1,g2,g3,g4,Bool.false_eq_true,false_and,and_false,if_false];rw[if_neg];omega
 have hAB:A*B<=0:=aa;have hCD:C*D<=0:=aa;simp only[hAB,hCD,decide_true]at b1 b2 b3 b4;unfold JO;rw[if_neg h];by_cases a0:A=0 <;> by_cases b0:B=0 <;> by_cases c0:C=0 <;> by_cases d0:D=0 <;> simp only[a0,b0,c0,d0,not_true,not_false_eq_true,true_implies,false_implies,ne_eq,and_self,and_true,true_and,and_false,false_and]at hn hn' b1 b2 b3 b4 f1 f2 f3 f4 n1 n2 n3 n4 o13' o14' o23' o24'
 all_goals(simp only[m9,j6,rf,g1,g2,g3,g4, *,or_self,or_true,true_or,and_self,if_true,Bool.false_eq_true,Bool.or_false,Bool.or_self,Bool.or_true,and_true,true_and,false_and,and_false,if_false,List.nil_append,or_false,false_or,Bool.true_eq_false])
 all_goals(try(simp only[rf, *,or_self,or_true,true_or,and_self,if_true,Bool.false_eq_true,and_true,true_and,false_and,and_false,if_false,or_false,false_or];done))
 have nAB:A*B≠0:=Int.mul_ne_zero a0 b0;have nCD:C*D≠0:=Int.mul_ne_zero c0 d0;rw[if_pos ⟨aa,aa⟩]
def key (p:Int × Int):Int:=p.1*100000+p.2
theorem lN {a b:Int × Int}(ha:bF a=true)(hb:bF b=true):iV a b=jN (key a) (key b):=by
 simp only[bF,af,ag]at ha hb;obtain⟨a1,a2⟩:=a;obtain⟨b1,b2⟩:=b;simp only at ha hb;unfold iV orI jN key;simp only;by_cases h1:a1<b1
 ·rw[if_pos h1,if_pos (aa:a1*100000+a2<b1*100000+b2)];rfl
 by_cases h2:b1<a1
 ·rw[if_neg h1,if_pos h2,if_neg (aa:¬(a1*100000+a2<b1*100000+b2)),if_pos (aa:b1*100000+b2<a1*100000+a2)];rfl
 rw[if_neg h1,if_neg h2,if_pos rfl];have:a1=b1:=aa;subst this;by_cases h3:a2<b2
 ·rw[if_pos h3,if_pos aa]
 rw[if_neg h3,if_neg (aa:¬(a1*100000+a2<a1*100000+b2))];by_cases h4:b2<a2
 ·rw[if_pos h4,if_pos aa]
 rw[if_neg h4,if_neg aa]
theorem aC6 {a b:Int × Int}(ha:bF a=true)(hb:bF b=true):fS a b=true↔key a=key b:=by
 simp only[bF,af,ag]at ha hb;simp only[fS,af,ag,key,and_true];omega
theorem K0 {a b:Int × Int}(ha:bF a=true)(hb:bF b=true):fS a b=false↔key a≠key b:=by
 rw[<- Bool.not_eq_true,aC6 ha hb]
theorem aML (a b:Int):jN a b<=0↔a<=b:=by unfold jN;split <;> (try split) <;> omega
theorem RO (a b:Int):jN a b<0↔a<b:=by unfold jN;split <;> (try split) <;> omega
theorem W6 (a b:Int):0<jN a b↔b<a:=by unfold jN;split <;> (try split) <;> omega
theorem aIg (a b:Int):aK8 (jN a b)=if a<b then 4 else if a=b then 1 else 0:=by
 unfold aK8 jN;split
 ·rfl
 split
 ·rw[if_neg aa,if_neg aa,if_neg aa]
 rw[if_neg aa,if_pos rfl,if_pos aa]
theorem nQ {s:Sg}(h:c8 s=true):bF s.1=true/\bF s.2=true/\s.1≠s.2:=by
 simp only[c8,af,Bool.not_eq_true']at h;exact⟨h.1.1,h.1.2,(j7 _ _).1 h.2⟩
def kF (p1 p2 p3 p4 e13 e14 e23 e24:Bool):Int :=
 match p1,p2,p3&&!(p1&&e13)&&!(p2&&e23),p4&&!(p1&&e14)&&!(p2&&e24)with
 |false,false,false,false=>0
 |true,false,false,false=>if e13 || e14 then 1 else 2
 |false,true,false,false=>if e23 || e24 then 1 else 2
 |false,false,true,false=>if e13 || e23 then 1 else 2
 |false,false,false,true=>if e14 || e24 then 1 else 2
 |_,_,_,_=>4
set_option maxHeartbeats 2000000 in
theorem aOY {k1 k2 k3 k4 a1 a2 b1 b2:Int}(ha:(k1<k2/\a1=k1/\a2=k2)\/(k2<k1/\a1=k2/\a2=k1))(hb:(k3<k4/\b1=k3/\b2=k4)\/(k4<k3/\b1=k4/\b2=k3)) :
  (if(if a1<b1 then b1 else a1)<(if b2<a2 then b2 else a2)then(4:Int)else if(if a1<b1 then b1 else a1)=(if b2<a2 then b2 else a2)then 1 else 0)
   = kF (decide (b1<=k1/\k1<=b2)) (decide (b1<=k2/\k2<=b2)) (decide (a1<=k3/\k3<=a2)) (decide (a1<=k4/\k4<=a2)) (decide (k1=k3)) (decide (k1=k4)) (decide (k2=k3)) (decide (k2=k4)):=by
 rcases ha with⟨a,xa,ya⟩|⟨a,xa,ya⟩ <;> rcases hb with⟨b,xb,yb⟩|⟨b,xb,yb⟩ <;>
 by_cases q1:b1<=k1/\k1<=b2 <;> by_cases q2:b1<=k2/\k2<=b2 <;> by_cases q3:a1<=k3/\k3<=a2 <;> by_cases q4:a1<=k4/\k4<=a2 <;> (try(exfalso;omega)) <;>
  by_cases u1:k1=k3 <;> (try(exfalso;omega)) <;> by_cases u2:k1=k4 <;> (try(exfalso;omega)) <;> by_cases u3:k2=k3 <;> (try(exfalso;omega)) <;> by_cases u4:k2=k4 <;> (try(exfalso;omega)) <;>
  (first|rw[ai q1]|rw[aj q1]) <;> (first|rw[ai q2]|rw[aj q2]) <;> (first|rw[ai q3]|rw[aj q3]) <;> (first|rw[ai q4]|rw[aj q4]) <;>
  (first|rw[ai u1]|rw[aj u1]) <;> (first|rw[ai u2]|rw[aj u2]) <;> (first|rw[ai u3]|rw[aj u3]) <;> (first|rw[ai u4]|rw[aj u4]) <;>
  simp only[kF,Bool.and_true,Bool.not_true,Bool.and_false,Bool.not_false,Bool.or_true,Bool.or_false,Bool.true_or,if_true,Bool.false_eq_true,if_false,Bool.true_and,Bool.false_and] <;> split <;> split <;> (try split) <;> (try split) <;> omega
theorem tX (a b:Int × Int):fS a b=fS b a:=by
 rw[Bool.eq_iff_iff,eL,eL];exact eq_comm
set_option maxHeartbeats 2000000 in
theorem aG6 (s t:Sg)(h:bH s.1 s.2 t.1=0)(n12:fS s.1 s.2=false)(n34:fS t.1 t.2=false) :
  qP s t=kF (rR s.1 t) (rR s.2 t) (rR t.1 s) (rR t.2 s) (fS s.1 t.1) (fS s.1 t.2) (fS s.2 t.1) (fS s.2 t.2):=by
 have g1:=lO s s.1 (.inl rfl);have g2:=lO s s.2 (.inr rfl);have g3:=lO t t.1 (.inl rfl);have g4:=lO t t.2 (.inr rfl);have rf:∀ p,fS p p=true:=fun p=>(eL p p).2 rfl;have n21:fS s.2 s.1=false:=(by rw[tX];exact n12);have n43:fS t.2 t.1=false:=(by rw[tX];exact n34);have c1:=tX t.1 s.1;have c2:=tX t.1 s.2;have c3:=tX t.2 s.1;have c4:=tX t.2 s.2;unfold qP l7;simp only[h,m9,g1,g2,g3,g4,true_and];generalize rR s.1 t=p1;generalize rR s.2 t=p2;generalize rR t.1 s=p3;generalize rR t.2 s=p4;generalize he13:fS s.1 t.1=e13 at *;generalize he14:fS s.1 t.2=e14 at *;generalize he23:fS s.2 t.1=e23 at *;generalize he24:fS s.2 t.2=e24 at *;clear g1 g2 g3 g4 h;generalize s.1=P1 at *;generalize s.2=P2 at *;generalize t.1=P3 at *;generalize t.2=P4 at *;cases p1 <;> cases p2 <;> cases p3 <;> cases p4 <;> simp only[j6,rf,n12,n21,n34,n43,he13,he14,he23,he24,c1,c2,c3,c4,kF,Bool.false_eq_true,false_and,and_false,and_self,and_true,true_and,if_true,if_false,List.nil_append,Bool.or_false,Bool.false_or,Bool.true_and,Bool.false_and,or_true,true_or,or_false,false_or,Int.zero_mul,Int.lt_irrefl,Bool.not_false,Bool.or_true,Bool.true_or]
 all_goals(cases e13 <;> cases e14 <;> cases e23 <;> cases e24 <;> simp[j6,rf,n12,n21,n34,n43,he13,he14,he23,he24,c1,c2,c3,c4,kF])
theorem aG1 (s t:Sg)(hs:c8 s=true)(ht:c8 t=true)(h:bH s.1 s.2 t.1=0/\bH s.1 s.2 t.2=0):pC s t=qP s t:=by
 obtain⟨r1,r2,ns⟩:=nQ hs;obtain⟨r3,r4,nt⟩:=nQ ht;have h':=zL t s ns h;have n12:key s.1≠key s.2:=(K0 r1 r2).1 ((j7 _ _).2 ns);have n34:key t.1≠key t.2:=(K0 r3 r4).1 ((j7 _ _).2 nt);have p3:rR t.1 s=NN t.1 s:=(by rw[<- aBU _ _ hs,onS,h.1];simp);have p4:rR t.2 s=NN t.2 s:=(by rw[<- aBU _ _ hs,onS,h.2];simp);have p1:rR s.1 t=NN s.1 t:=(by rw[<- aBU _ _ ht,onS,h'.1];simp);have p2:rR s.2 t=NN s.2 t:=(by rw[<- aBU _ _ ht,onS,h'.2];simp);have es:∃ a,bF (bY s).1=true/\bF (bY s).2=true/\((key s.1<key s.2/\key (bY s).1=key s.1/\key (bY s).2=key s.2)\/(key s.2<key s.1/\key (bY s).1=key s.2/\key (bY s).2=key s.1))/\a=true:=by
  refine⟨true,?_⟩;unfold bY;simp only[lN r1 r2,W6];by_cases hk:key s.2<key s.1
  ·rw[if_pos hk];exact⟨r2,r1,.inr ⟨hk,rfl,rfl⟩,trivial⟩
  rw[if_neg hk];exact⟨r1,r2,.inl ⟨aa,rfl,rfl⟩,trivial⟩
 have et:∃ a,bF (bY t).1=true/\bF (bY t).2=true/\((key t.1<key t.2/\key (bY t).1=key t.1/\key (bY t).2=key t.2)\/(key t.2<key t.1/\key (bY t).1=key t.2/\key (bY t).2=key t.1))/\a=true:=by
  refine⟨true,?_⟩;unfold bY;simp only[lN r3 r4,W6];by_cases hk:key t.2<key t.1
  ·rw[if_pos hk];exact⟨r4,r3,.inr ⟨hk,rfl,rfl⟩,trivial⟩
  rw[if_neg hk];exact⟨r3,r4,.inl ⟨aa,rfl,rfl⟩,trivial⟩
 obtain⟨_,ra1,ra2,ha,_⟩:=es;obtain⟨_,rb1,rb2,hb,_⟩:=et;rw[aG6 s t h.1 ((j7 _ _).2 ns) ((j7 _ _).2 nt),p1,p2,p3,p4];unfold pC;rw[if_pos h];have hl:bF (K7 s t)=true/\key (K7 s t)=(if key (bY s).1<key (bY t).1 then key (bY t).1 else key (bY s).1):=by
  unfold K7;simp only[lN ra1 rb1,RO];by_cases hk:key (bY s).1<key (bY t).1
  ·rw[if_pos hk,if_pos hk];exact⟨rb1,rfl⟩
  rw[if_neg hk,if_neg hk];exact⟨ra1,rfl⟩
 have hh:bF (wY s t)=true/\key (wY s t)=(if key (bY t).2<key (bY s).2 then key (bY t).2 else key (bY s).2):=by
  unfold wY;simp only[lN rb2 ra2,RO];by_cases hk:key (bY t).2<key (bY s).2
  ·rw[if_pos hk,if_pos hk];exact⟨rb2,rfl⟩
  rw[if_neg hk,if_neg hk];exact⟨ra2,rfl⟩
 have hbet:∀(p:Int × Int) (g:Sg),bF p=true->bF (bY g).1=true->bF (bY g).2=true->NN p g=decide (key (bY g).1<=key p/\key p<=key (bY g).2):=by
  intro p g hp h1 h2;unfold NN;rw[lN h1 hp,lN hp h2,Bool.eq_iff_iff];simp only[af,ag,aML]
 have heq:∀ a b:Int × Int,bF a=true->bF b=true->fS a b=decide (key a=key b):=by
  intro a b h1 h2;rw[Bool.eq_iff_iff,ag,aC6 h1 h2]
 rw[lN hl.1 hh.1,aIg,hl.2,hh.2,aOY ha hb,hbet _ _ r1 rb1 rb2,hbet _ _ r2 rb1 rb2,hbet _ _ r3 ra1 ra2,hbet _ _ r4 ra1 ra2,heq _ _ r1 r3,heq _ _ r1 r4,heq _ _ r2 r3,heq _ _ r2 r4]
theorem PT (s t:Sg)(hs:c8 s=true)(ht:c8 t=true):pC s t=qP s t:=by
 by_cases h:bH s.1 s.2 t.1=0/\bH s.1 s.2 t.2=0
 ·exact aG1 s t hs ht h
 exact aGc s t (nQ hs).2.2 (nQ ht).2.2 h
end Go.Aw

noncomputable section
namespace Go.Aw
open Proofs
theorem aK {ρ:Nat->Nat}{n sz:Nat}{wr g:Bool}{cs cs':List Value}(hg:dT cs=true)(e:cs'=cs):cK ρ n (.cells wr g sz cs) (.cells wr g sz cs'):=by
 subst e;exact aE hg
theorem rY {α:Type}(fl:α->List Value)(l m:List α):flat fl (l++m)=flat fl l++flat fl m:=by
 induction l with
 |nil=>rfl
 |cons a r ih=>simp only[List.cons_append,flat,ih,List.append_assoc]
theorem BF {α:Type}(E:El α){l:List α}{e:Option Int}{h:Heap}{q nx:Nat}(hl:0<l.length)(hq:aw h q=some (.cells true false E.sz (flat E.fl l))):Yields E l e (mH e (.slice (some ⟨q,0,none⟩) l.length l.length)) h nx:=by
 cases l with
 |nil=>cases hl
 |cons a r=>exact⟨q,rfl,hq⟩
end Go.Aw
end

noncomputable section
namespace Go.Aw
open Proofs
open Go.RowKit
def aNP (f:Nat):List Nat->Bool
 |[]=>false
 |g::r=>Nat.beq f g || aNP f r
def N3 (c:EI)(vs:List Nat)(X:Nat->Option XF):VC:=fun f args h nx K=>match aNP f vs with
 |true=>qI c 3 false f args h nx K
 |false=>CX X f args h nx K
theorem aI4 {P:Program}{c:EI}(hc:o6 P c){vs:List Nat}{X:Nat->Option XF}(hX:∀ f x,X f=some x->c7 P f x):bN P (N3 c vs X):=by
 intro f args h nx K hl;unfold N3 at hl;split at hl
 ·exact(kA hc 3).1 f args h nx K hl
 exact PF hX f args h nx K hl
theorem aFO {P:Program}{c:EI}(hc:o6 P c){vs:List Nat}{X:Nat->Option XF}(hX:∀ f x,X f=some x->c7 P f x):fG (N3 c vs X):=by
 intro f args h nx;cases hm:aNP f vs with
 |true =>
  have e:(fun K=>N3 c vs X f args h nx K)=fun K=>qI c 3 false f args h nx K:=by
   funext K;unfold N3;rw[hm]
  show gN (fun K=>N3 c vs X f args h nx K);rw[e];exact(kA hc 3).2.2.1 f args h nx
 |false =>
  have e:(fun K=>N3 c vs X f args h nx K)=fun K=>CX X f args h nx K:=by
   funext K;unfold N3;rw[hm]
  show gN (fun K=>N3 c vs X f args h nx K);rw[e];exact ER hX f args h nx
section
variable {α β:Type}(E:El α)
def vOf (l:List α)(e:Option Int):Value:=match l with
 |[]=>mH e (.slice none 0 0)
 |a::r=>mH e (ak 0 (a::r).length (a::r).length)
def hOf (l:List α):Heap:=match l with
 |[]=>[]
 |a::r=>[(0,.cells true false E.sz (flat E.fl (a::r)))]
def mOf (l:List α):Nat:=match l with
 |[]=>0
 |_::_=>1
theorem SZ {l:List α}{e:Option Int}{v:Value}{h:Heap}{nx:Nat}(hv:Yields E l e v h nx):BX (vOf l e) (hOf E l) (mOf l) v h nx:=by
 cases l with
 |nil =>
  rw[show v=_ from hv];exact gM (yU e)
 |cons a r =>
  obtain⟨q,rfl,hq⟩:=hv;refine⟨fun _=>q,⟨fun t u hu=>?_,fun k o hk=>?_,fun k k' o o' hk hk' _=>?_,fun k hk=>absurd hk (Nat.not_lt_zero k),Nat.zero_le _⟩⟩
  ·rw[aD]at hu;split at hu
   ·rename_i hb;injection hu with hu;subst hu;exact⟨by rw[aD,hb];show _=some (fJ (fun _=>q) (mH e (ak 0 (a::r).length (a::r).length)));rw[zG],TK e _ _⟩
   exact cA hu
  ·rw[show hOf E (a::r)=[(0,.cells true false E.sz (flat E.fl (a::r)))]from rfl,aD]at hk;split at hk
   ·rename_i hb;injection hk with hk;subst hk;exact⟨by rw[<- az hb];exact Nat.one_pos,_,hq,aE (aC E _)⟩
   exact cA hk
  rw[show hOf E (a::r)=[(0,.cells true false E.sz (flat E.fl (a::r)))]from rfl,aD]at hk hk';split at hk
  ·rename_i hb1;split at hk'
   ·rename_i hb2;exact(az hb1).symm.trans (az hb2)
   exact cA hk'
  exact cA hk
def aGH (l:List α)(e:Option Int)(h:Heap)(nx:Nat)(K:KE):Prop:=match l with
 |[]=>K (mH e (.slice none 0 0)) h nx
 |a::r=>K (mH e (ak nx (a::r).length (a::r).length)) (cO h nx (.cells true false E.sz (flat E.fl (a::r)))) (nx+1)
theorem aJd {l:List α}{e:Option Int}{h:Heap}{nx:Nat}{K:KE}(hk:aGH E l e h nx K):K (fJ (fun k=>nx+k) (vOf l e)) (app (nK nx (hOf E l)) (qY (hOf E l) h)) (nx+mOf l):=by
 cases l with
 |nil =>
  show K (fJ (fun k=>nx+k) (mH e (.slice none 0 0))) (app [] h) (nx+0);rw[lJ (yU e)];exact hk
 |cons a r =>
  have hm:(flat E.fl (a::r)).map (cB (fun k=>nx+k))=flat E.fl (a::r):=bK (aC E _);show K (fJ (fun k=>nx+k) (mH e (ak 0 (a::r).length (a::r).length))) (app [(nx+0,.cells true false E.sz ((flat E.fl (a::r)).map (cB (fun k=>nx+k))))] h) (nx+1);rw[zG,hm];exact hk
theorem aDD (l:List α):fL (hOf E l)=true:=by cases l <;> rfl
def yOf (T:List Value->Heap->Nat->List α->Option Int->Prop):XF:=xOf fun args0 h0 n0 v1 h1 m=>∃ l e,T args0 h0 n0 l e/\v1=vOf l e/\h1=hOf E l/\m=mOf l
theorem aLm {P:Program}{C:VC}{f:Nat}{T:List Value->Heap->Nat->List α->Option Int->Prop}(hC:bN P C)(hT:∀ args0 h0 n0 l e,T args0 h0 n0 l e->C f args0 h0 n0 (Yields E l e)):c7 P f (yOf E T) :=
 eJ hC fun args0 h0 n0 v1 h1 m ⟨l,e,ht,hv,hh,hm⟩=>by
  subst hv hh hm;exact⟨aDD E l,_,hT _ _ _ _ _ ht,fun v h nx hq=>SZ E hq⟩
theorem aHv {T:List Value->Heap->Nat->List α->Option Int->Prop}{args0:List Value}{h0:Heap}{n0:Nat}{l:List α}{e:Option Int}{args:List Value}{h:Heap}{nx:Nat}{K:KE}(ht:T args0 h0 n0 l e)(hi:In args0 h0 n0 args h nx)(hk:aGH E l e h nx K):yOf E T args h nx K :=
 ⟨args0,h0,n0,_,_,_,⟨l,e,ht,rfl,rfl,rfl⟩,hi,aJd E hk⟩
def rfX (E2:El β)(s:List α->List Value->Option (Bool × List β × Option Int)):XF:=fun args h nx K=>match args with
 |v::r=>∃ l,eY E h v l/\(match s l r with|some p=>eF p.1 (aGH E2 p.2.1 p.2.2 h nx K)|none=>False)
 |_=>False
end
section
variable {α:Type}(E:El α)
theorem YO {a0 b0 a b:Value}{o1 o2:bV}{h:Heap}{nx n1 c1 n2 c2:Nat}(ha0:a0=ak 0 n1 c1)(hb0:b0=ak 0 n2 c2)
  (h1:In [a0] [(0,o1)] 1 [a] h nx) (h2:In [b0] [(0,o2)] 1 [b] h nx) (g1:∃ sz cs,o1=.cells false true sz cs/\dT cs=true) (g2:∃ sz cs,o2=.cells false true sz cs/\dT cs=true) :
  In [a0,ak 1 n2 c2] [(0,o1),(1,o2)] 2 [a,b] h nx:=by
 subst ha0 hb0;obtain⟨s1,cs1,rfl,gc1⟩:=g1;obtain⟨s2,cs2,rfl,gc2⟩:=g2;intro ι B w H hs;obtain⟨ι1,e1,k1,R1⟩:=h1 ι B w H (fun v hv=>hs v (by cases hv with|head=>exact .head _|tail _ hm=>cases hm));obtain⟨ι2,e2,k2,R2⟩:=h2 ι B w H (fun v hv=>hs v (by cases hv with|head=>exact .tail _ (.head _)|tail _ hm=>cases hm));simp only[List.map_cons,List.map_nil,List.cons.injEq,and_true]at e1 e2;have q1:=R1.obj 0 _ rfl;have q2:=R2.obj 0 _ rfl;have kk1:=k1 _ (.head _);have kk2:=k2 _ (.head _);refine⟨fun k=>if k=0 then ι1 0 else ι2 0,?_,?_,⟨?_,?_,?_,ah _,?_⟩⟩
 ·simp only[List.map_cons,List.map_nil,e1,e2];rfl
 ·intro v hv;cases hv with
  |head=>exact⟨show(0:Nat)<2 by decide,kk1.2⟩
  |tail _ hm =>
   cases hm with
   |head=>exact⟨show(1:Nat)<2 by decide,kk2.2⟩
   |tail _ hm=>cases hm
 ·intro k o hk;have key:∀{ι:Nat->Loc} {sz:Nat} {cs:List Value} {loc:Loc} (ι':Nat->Loc),dT cs=true->m3 ι w.heap.size w (.cells false true sz cs) loc->m3 ι' w.heap.size w (.cells false true sz cs) loc:=by
   intro ι sz cs loc ι' hg ho;cases loc with
   |nil p=>exact ho
   |lay b o e =>
    obtain⟨x1,x2,x3⟩:=ho;refine⟨x1,x2,fun i v hv=>?_⟩;rw[x3 i v hv,oI (a9 hg (List.mem_of_getElem? hv)),oI (a9 hg (List.mem_of_getElem? hv))]
  rw[aD]at hk;split at hk
  ·rename_i hb;injection hk with hk;subst hk;rw[<- az hb];exact key _ gc1 q1
  rw[aD]at hk;split at hk
  ·rename_i hb;injection hk with hk;subst hk;rw[<- az hb];exact key _ gc2 q2
  exact cA hk
 ·intro k k' o o' hk hk' hne hal b hb;exfalso;rw[aD]at hk;split at hk
  ·injection hk with hk;subst hk;cases hal
  rw[aD]at hk;split at hk
  ·injection hk with hk;subst hk;cases hal
  exact cA hk
 ·intro k o hk;rw[aD]at hk;split at hk
  ·rename_i hb;rw[<- az hb];decide
  rw[aD]at hk;split at hk
  ·rename_i hb;rw[<- az hb];decide
  exact cA hk
 intro k o hk;rw[aD]at hk;split at hk
 ·injection hk with hk;subst hk;exact fun v hv=>bM (a9 gc1 hv)
 rw[aD]at hk;split at hk
 ·injection hk with hk;subst hk;exact fun v hv=>bM (a9 gc2 hv)
 exact cA hk
theorem KD {h:Heap}{nx:Nat}{v:Value}{l:List α}(hl:eY E h v l):∃ c,In [ak 0 l.length c] [(0,.cells false true E.sz (flat E.fl l))] 1 [v] h nx:=by
 unfold eY at hl;split at hl
 ·rename_i n c;obtain⟨rfl,rfl,rfl⟩:=hl;exact⟨0,Q7 rfl true E.sz E.pos⟩
 ·rename_i k o n c;obtain⟨rfl,wr,g,sz,cs,hk,hcs⟩:=hl;exact⟨c,Z6 rfl hk hcs (aC E l) true E.sz E.pos⟩
 exact hl.elim
def l2X (s:List α->List α->Option (Bool × Value)):XF:=fun args h nx K=>match args with
 |[a,b]=>∃ l1 l2,eY E h a l1/\eY E h b l2/\(match s l1 l2 with|some p=>eF p.1 (K p.2 h nx)|none=>False)
 |_=>False
theorem aLF {P:Program}{C:VC}{f:Nat}{s:List α->List α->Option (Bool × Value)}(hC:bN P C)
  (hs:∀ l1 l2 v,s l1 l2=some (true,v)->gT v=true/\∀ c1 c2,C f [ak 0 l1.length c1,ak 1 l2.length c2] [(0,.cells false true E.sz (flat E.fl l1)),(1,.cells false true E.sz (flat E.fl l2))] 2 (fun u _ _=>u=v)):c7 P f (l2X E s):=by
 refine(eJ (S:=fun args0 h0 n0 v1 h1 m=>∃ l1 l2 c1 c2,s l1 l2=some (true,v1)/\args0=[ak 0 l1.length c1,ak 1 l2.length c2]/\h0=[(0,.cells false true E.sz (flat E.fl l1)),(1,.cells false true E.sz (flat E.fl l2))]/\n0=2/\h1=[]/\m=0) hC ?_).mono ?_ ?_
 ·rintro args0 h0 n0 v1 h1 m ⟨l1,l2,c1,c2,e1,rfl,rfl,rfl,rfl,rfl⟩;obtain⟨a2,a3⟩:=hs l1 l2 v1 e1;exact⟨rfl,_,a3 c1 c2,fun v h nx e=>by rw[e];exact gM a2⟩
 ·intro args h nx K hx;unfold l2X at hx;split at hx
  case h_2=>exact hx.elim
  rename_i a b;obtain⟨l1,l2,hl1,hl2,hx⟩:=hx;split at hx
  case h_2=>exact hx.elim
  rename_i p e1;obtain⟨bb,u⟩:=p;obtain⟨rfl,hx⟩:=aH.1 hx;obtain⟨a2,a3⟩:=hs l1 l2 u e1;obtain⟨c1,i1⟩:=KD (nx:=nx) E hl1;obtain⟨c2,i2⟩:=KD (nx:=nx) E hl2;refine⟨_,_,2,u,[],0,⟨l1,l2,c1,c2,e1,rfl,rfl,rfl,rfl,rfl⟩,YO rfl rfl i1 i2 ⟨_,_,rfl,aC E l1⟩ ⟨_,_,rfl,aC E l2⟩,?_⟩;simp only[qY,pF,nK,lL,lJ a2,Nat.add_zero];exact hx
 intro args h nx K hx;unfold l2X at hx;split at hx
 case h_2=>exact hx.elim
 rename_i a b;obtain⟨l1,l2,hl1,hl2,hx⟩:=hx;split at hx
 case h_2=>exact hx.elim
 rename_i p e1;obtain⟨hb,hx⟩:=aH.1 hx;exact⟨p.2,h,nx,hx,fun K' hk=>⟨l1,l2,hl1,hl2,by rw[e1];exact aM hb hk⟩⟩
end
end Go.Aw
end
