/-
  Parts of a proof. No condition.
-/
import Derived.Test.YticajjhjehljpaaGreatQAf
import Derived.Test.YticajjhjehljpaaGreatQAg
import Derived.WalkKit
set_option linter.unusedSimpArgs false
set_option linter.unusedVariables false
noncomputable section
namespace Go.Aw
def ltF:Int→Int→Bool
 |.ofNat m,.ofNat n=>Nat.blt m n
 |.ofNat _,.negSucc _=>false
 |.negSucc _,.ofNat _=>true
 |.negSucc m,.negSucc n=>Nat.blt n m
def leF:Int→Int→Bool
 |.ofNat m,.ofNat n=>Nat.ble m n
 |.ofNat _,.negSucc _=>false
 |.negSucc _,.ofNat _=>true
 |.negSucc m,.negSucc n=>Nat.ble n m
def eqF:Int→Int→Bool
 |.ofNat m,.ofNat n=>Nat.beq m n
 |.ofNat _,.negSucc _=>false
 |.negSucc _,.ofNat _=>false
 |.negSucc m,.negSucc n=>Nat.beq m n
def ZA:IntKind→Int→Bool
 |.i64,.ofNat m=>Nat.ble m 9223372036854775807
 |.i64,.negSucc m=>Nat.ble m 9223372036854775807
 |k,n=>aF k n
theorem aGZ (m n:Nat):Nat.blt m n=decide (m<n):=by
 cases h:Nat.blt m n with
 |true=>exact (decide_eq_true (rH h)).symm
 |false =>
  refine (decide_eq_false fun hl=>?_).symm;have:Nat.blt m n=true:=Nat.ble_eq_true_of_le hl;rw [h] at this;cases this
theorem XZ (m n:Nat):Nat.ble m n=decide (m≤n):=by
 cases h:Nat.ble m n with
 |true=>exact (decide_eq_true (Nat.le_of_ble_eq_true h)).symm
 |false =>
  refine (decide_eq_false fun hl=>?_).symm;have:Nat.ble m n=true:=Nat.ble_eq_true_of_le hl;rw [h] at this;cases this
theorem aFZ (m n:Nat):Nat.beq m n=decide (m=n):=by
 cases h:Nat.beq m n with
 |true=>exact (decide_eq_true (beq_true h)).symm
 |false=>exact (decide_eq_false (beq_false h)).symm
theorem aL9 (a b:Int):ltF a b=decide (a<b):=by
 rw [Bool.eq_iff_iff];cases a <;> cases b <;> simp only [ltF,aGZ,decide_eq_true_eq,Int.ofNat_eq_natCast,Int.negSucc_eq,Bool.false_eq_true,false_iff,true_iff] <;> omega
theorem aKT (a b:Int):leF a b=decide (a≤b):=by
 rw [Bool.eq_iff_iff];cases a <;> cases b <;> simp only [leF,XZ,decide_eq_true_eq,Int.ofNat_eq_natCast,Int.negSucc_eq,Bool.false_eq_true,false_iff,true_iff] <;> omega
theorem aJy (a b:Int):eqF a b=decide (a=b):=by
 rw [Bool.eq_iff_iff];cases a <;> cases b <;> simp only [eqF,aFZ,decide_eq_true_eq,Int.ofNat_eq_natCast,Int.negSucc_eq,Bool.false_eq_true,false_iff,true_iff] <;> omega
theorem aF3 (k:IntKind)(n:Int):ZA k n=aF k n:=by
 cases k <;> try rfl
 rw [Bool.eq_iff_iff];cases n <;> simp only [ZA,aF,XZ,Bool.and_eq_true,decide_eq_true_eq,Int.ofNat_eq_natCast,Int.negSucc_eq] <;> omega
def YP:Ar:={ aC with
 add:=Int.add,sub:=Int.sub,mul:=Int.mul
 lt:=ltF,le:=leF,eq:=eqF,fits:=ZA
 ix:=fun o i s=>Nat.add o (Nat.mul i.toNat s)
 num:=Int.ofNat,fH:=Int.toNat,subN:=Nat.sub }
theorem aF9:YP=aC:=by
 unfold YP
 rw [show ltF=aC.lt from funext fun a=>funext fun b=>aL9 a b,show leF=aC.le from funext fun a=>funext fun b=>aKT a b,
  show eqF=aC.eq from funext fun a=>funext fun b=>aJy a b,show ZA=aC.fits from funext fun a=>funext fun b=>aF3 a b]
 rfl
def aQ5:EP:={ A:=YP,T:=tyT,FT:=look ftL,PL:=plF,PR:=fun _=>false,X:=fun _=>none,M:=1000 }
theorem X1:∀ {l:List (Nat × Func)} {f:Nat} {fn:Func},PQ l=true→(f,fn)∈l→fnB f fn=true
 |[],_,_,_,h=>by cases h
 |(g,gn)::r,f,fn,hb,h=>by
  simp only [PQ,Bool.and_eq_true] at hb;cases h with
  |head=>exact hb.1
  |tail _ hm=>exact X1 hb.2 hm
theorem RA (f : Nat)(fn : Func)(h : look ftL f = some fn) : Go.Proofs.Tryz.prog.funcs[f]? = some fn ∧ (fn.name == "runtime.NumGoroutine") = false ∧ ∀ b, fn.body = some b → dC (plF f) b = true := by
 have hm:=aY h;have hb:=X1 aJO hm;unfold fnB at hb;simp only [Bool.and_eq_true,Bool.not_eq_true'] at hb;have h1:Go.Proofs.Tryz.prog.funcs[(f,fn).1]? = some (f,fn).2:=aLG (f,fn) hm;refine⟨h1,hb.1,?_⟩;have h2:=hb.2;generalize plF f=Φ at h2 ⊢;intro b he;simp only [he] at h2;exact h2
theorem IT (X:Nat→Option (List Value→Heap→Nat→KE→Prop))(hX:∀ f x,X f=some x→cO Go.Proofs.Tryz.prog f x)(PR:Nat→Bool)(M:Nat):qH Go.Proofs.Tryz.prog { A:=YP,T:=tyT,FT:=look ftL,PL:=plF,PR:=PR,X:=X,M:=M } where
 ar:=aF9
 tab:=M1 aD4
 mixed:=by decide +kernel
 funcs:=RA
 xs:=hX
def iv (n:Int):Value:=.int .i64 n
def pt (x y:Int):Value:=.agg #[iv x,iv y]
end Go.Aw
end

noncomputable section
namespace Go.Aw
open Go.RowKit
theorem bm {b:Bool}{X Y:Prop}(h1:b=true→X)(h2:b=false→Y):(match (generalizing:=false) b with|true=>X|false=>Y):=by
 cases b
 ·exact h2 rfl
 exact h1 rfl
theorem n8 {x:Option (List Value)}{v:List Value}{G:List Value→Prop}(h:x=some v)(k:G v):(match (generalizing:=false) x with|some v=>G v|none=>False):=by
 subst h;exact k
theorem iU {x:Option Value}{v:Value}{G:Value→Prop}(h:x=some v)(k:G v):(match (generalizing:=false) x with|some v=>G v|none=>False):=by
 subst h;exact k
abbrev XF:=List Value→Heap→Nat→KE→Prop
def CX (X:Nat→Option XF):VC:=fun f args h nx K=>match X f with|some x=>x args h nx K|none=>False
def noY:VY:=fun _ _ _ _ _=>False
theorem SB {P:Program}{X:Nat→Option XF}(hX:∀ f x,X f=some x→cO P f x):bF P (CX X):=by
 intro f args h nx K hl ι B w H hs;unfold CX at hl;split at hl
 ·rename_i x hx;exact (hX f x hx).1 args h nx K hl ι B w H hs
 exact hl.elim
theorem HC {P:Program}{X:Nat→Option XF}(hX:∀ f x,X f=some x→cO P f x):eT (CX X):=by
 intro f args h nx K hl;unfold CX at hl;split at hl
 ·rename_i x hx;obtain⟨v,h',nx',k1,k2⟩:=(hX f x hx).2 args h nx K hl;exact⟨v,h',nx',k1,fun K' hk=>by unfold CX;rw [hx];exact k2 K' hk⟩
 exact hl.elim
theorem MU {P:Program}:fE P noY:=fun _ _ _ _ _ hl=>hl.elim
theorem BK:eT noY:=fun _ _ _ _ _ hl=>hl.elim
theorem cO.mono {P:Program}{f:Nat}{x x':XF}(h:cO P f x)(hm:∀ args h nx K,x' args h nx K→x args h nx K)(hd:∀ args h nx,fY (x' args h nx)):cO P f x' :=
 ⟨fun args hh nx K hx=>h.1 args hh nx K (hm _ _ _ _ hx),hd⟩
def gX (s:List Value→Option (Bool × Value)):XF:=fun args h nx K=>match s args with|some p=>dQ p.1 (K p.2 h nx)|none=>False
theorem lY (h:Heap):app h []=h:=by
 induction h with
 |nil=>rfl
 |cons x r ih=>simp only [app,ih]
theorem yE {P:Program}{C:VC}{f:Nat}{s:List Value→Option (Bool × Value)}(hC:bF P C)
  (hs:∀ args v,s args=some (true,v)→eX args=true∧gT v=true∧C f args [] 0 (fun u _ _=>u=v)):cO P f (gX s):=by
 refine (gO (S:=fun args0 h0 n0 v1 h1 m=>s args0=some (true,v1)∧h0=[]∧n0=0∧h1=[]∧m=0) hC ?_).mono ?_ ?_
 ·rintro args0 h0 n0 v1 h1 m ⟨e1,rfl,rfl,rfl,rfl⟩;obtain⟨a1,a2,a3⟩:=hs args0 v1 e1;refine⟨rfl,?_⟩;exact⟨_,a3,fun v h nx e=>by rw [e];exact lA a2⟩
 ·intro args h nx K hx;unfold gX at hx;split at hx
  ·rename_i p e1;obtain⟨b,v⟩:=p;obtain⟨rfl,hx⟩:=aE.1 hx;obtain⟨a1,a2,a3⟩:=hs args v e1;refine⟨args,[],0,v,[],0,⟨e1,rfl,rfl,rfl,rfl⟩,aLB fun u hu=>cD a1 hu,?_⟩;simp only [pT,uG,oD,lY,gE a2,Nat.add_zero];exact hx
  exact hx.elim
 intro args h nx K hx;unfold gX at hx;split at hx
 ·rename_i p e1;obtain⟨hb,hx⟩:=aE.1 hx;exact⟨p.2,h,nx,hx,fun K' hk=>by unfold gX;rw [e1];exact aI hb hk⟩
 exact hx.elim
theorem aO {ρ:Nat→Nat}{n sz:Nat}{wr g:Bool}{cs:List Value}(hg:dP cs=true):bZ ρ n (.cells wr g sz cs) (.cells wr g sz cs) :=
 ⟨rfl,rfl,rfl,(bJ hg).symm,fun v hv=>cN (aW hg hv)⟩
theorem aJ {b n0 nx:Nat}{I:KS}{e0 e:List (Nat × Value)}{h0 h:Heap}(hI:I e0 h0 n0)(he:∀ p∈e0,look e p.1=some (iM id p.2)∧zR n0 p.2)
  (hh:∀ p∈h0,p.1<n0∧∃ o',look h (id p.1)=some o'∧bZ id n0 p.2 o') (hb:b≤n0):sT b I e h nx :=
 ⟨e0,h0,n0,id,hI,fun t v hv=>he (t,v) (aY hv),fun k o hk=>hh (k,o) (aY hk),fun k k' o o' _ _ e=>e,fun k _=>rfl,hb⟩
def flat {α:Type}(fl:α→List Value):List α→List Value
 |[]=>[]
 |a::r=>fl a++flat fl r
structure El (α:Type) where
 fl:α→List Value
 sz:Nat
 len:∀ a,(fl a).length=sz
 gr:∀ a,dP (fl a)=true
 pos:sz≠0:=by decide
section
variable {α:Type}(E:El α)
theorem bE (l:List α):(flat E.fl l).length=l.length*E.sz:=by
 induction l with
 |nil=>simp [flat]
 |cons a r ih=>simp only [flat,List.length_append,E.len,ih,List.length_cons,Nat.succ_mul];omega
theorem aD (l:List α):dP (flat E.fl l)=true:=by
 induction l with
 |nil=>rfl
 |cons a r ih=>simp only [flat,PV,E.gr,ih,Bool.and_self]
theorem aGL {l:List Value}{o n:Nat}(h:o+n≤l.length):pC l o n=some ((l.drop o).take n):=by
 induction n generalizing o with
 |zero=>simp [pC]
 |succ n ih =>
  have hlt:o<l.length:=(by omega);simp only [pC,y6,List.getElem?_eq_getElem hlt,ih (o:=o+1) (by omega)];congr 1;rw [List.drop_eq_getElem_cons hlt];rfl
theorem ND (l:List α)(i:Nat)(hi:i<l.length):((flat E.fl l).drop (i*E.sz)).take E.sz=E.fl l[i]:=by
 induction l generalizing i with
 |nil=>simp at hi
 |cons a r ih =>
  cases i with
  |zero =>
   simp only [flat,Nat.zero_mul,List.drop_zero,List.getElem_cons_zero];rw [List.take_append_of_le_length (by rw [E.len];exact Nat.le_refl _),List.take_of_length_le (by rw [E.len];exact Nat.le_refl _)]
  |succ i =>
   have hl:(fl:List Value)→True:=fun _=>trivial;simp only [flat,List.getElem_cons_succ];rw [show (i+1)*E.sz=(E.fl a).length+i*E.sz by rw [E.len,Nat.succ_mul];omega,List.drop_append,Nat.add_sub_cancel_left,List.drop_eq_nil_of_le (by omega),List.nil_append];exact ih i (by simpa using hi)
theorem vL (l:List α){i o:Nat}(hi:i<l.length)(ho:o=i*E.sz):pC (flat E.fl l) o E.sz=some (E.fl l[i]):=by
 subst ho;have h1:(i+1)*E.sz≤l.length*E.sz:=Nat.mul_le_mul_right _ hi;rw [aGL (by rw [bE];rw [Nat.succ_mul] at h1;exact h1),ND E l i hi]
def jG (h:Heap)(v:Value)(l:List α):Prop :=
 match v with
 |.slice none n c=>n=0∧c=0∧l=[]
 |.slice (some ⟨k,o,none⟩) n _=>n=l.length∧∃ wr g sz cs,look h k=some (.cells wr g sz cs)∧(cs.drop o).take (flat E.fl l).length=flat E.fl l
 |_=>False
def lX (s:List α→List Value→Option (Bool × Value)):XF:=fun args h nx K=>match args with
 |v::r=>∃ l,jG E h v l∧(match s l r with|some p=>dQ p.1 (K p.2 h nx)|none=>False)
 |_=>False
theorem V1 {r:List Value}(hr:eX r=true){h:Heap}{nx:Nat}(g0:Bool)(sz:Nat)(hz:sz≠0):In (.slice (some ⟨0,0,none⟩) 0 0::r) [(0,.cells false g0 sz [])] 1 (.slice none 0 0::r) h nx:=by
 intro ι B w H hs;have hmap:∀ ι1 ι2:Nat→Loc,r.map (tr ι1)=r.map (tr ι2):=fun ι1 ι2=>List.map_congr_left fun v hv=>(by rw [jH (cD hr hv),jH (cD hr hv)]);refine⟨fun _=>.nil none,?_,?_,⟨?_,?_,?_,Nat.le_refl _,?_⟩⟩
 ·rw [List.map_cons,List.map_cons,hmap ι];rfl
 ·intro v hv;cases hv with
  |head=>exact⟨Nat.one_pos,fun _=>⟨rfl,rfl⟩⟩
  |tail _ hm=>exact cG (cD hr hm)
 ·intro j q hq;rw [aB] at hq;split at hq
  ·injection hq with hq;subst hq;exact⟨rfl,fun h=>h.elim (fun h=>absurd h hz) (fun h=>by cases h)⟩
  exact bX hq
 ·intro j j' q q' hq hq' hne ha b hb;cases hb
 ·intro j q hq;rw [aB] at hq;split at hq
  ·rename_i hb;rw [← beq_true hb];exact Nat.one_pos
  exact bX hq
 intro j q hq;rw [aB] at hq;split at hq
 ·injection hq with hq;subst hq;intro v hv;cases hv
 exact bX hq
theorem HI {P:Program}{C:VC}{f:Nat}{s:List α→List Value→Option (Bool × Value)}(hC:bF P C)
  (hs:∀ l r v,s l r=some (true,v)→eX r=true∧gT v=true∧∀ c,C f (.slice (some ⟨0,0,none⟩) l.length c::r) [(0,.cells false true E.sz (flat E.fl l))] 1 (fun u _ _=>u=v)):cO P f (lX E s):=by
 refine (gO (S:=fun args0 h0 n0 v1 h1 m=>∃ l r c,s l r=some (true,v1)∧args0=.slice (some ⟨0,0,none⟩) l.length c::r∧h0=[(0,.cells false true E.sz (flat E.fl l))]∧n0=1∧h1=[]∧m=0) hC ?_).mono ?_ ?_
 ·rintro args0 h0 n0 v1 h1 m ⟨l,r,c,e1,rfl,rfl,rfl,rfl,rfl⟩;obtain⟨a1,a2,a3⟩:=hs l r v1 e1;exact⟨rfl,_,a3 c,fun v h nx e=>by rw [e];exact lA a2⟩
 ·intro args h nx K hx;unfold lX at hx;split at hx
  case h_2=>exact hx.elim
  rename_i v r;obtain⟨l,hl,hx⟩:=hx;split at hx
  case h_2=>exact hx.elim
  rename_i p e1;obtain⟨b,u⟩:=p;obtain⟨rfl,hx⟩:=aE.1 hx;obtain⟨a1,a2,a3⟩:=hs l r u e1;have hK:K (iM (fun k=>nx+k) u) (app (oD nx []) (pT [] h)) (nx+0):=by
   simp only [pT,uG,oD,lY,gE a2,Nat.add_zero];exact hx
  unfold jG at hl;split at hl
  ·rename_i n c;obtain⟨rfl,rfl,rfl⟩:=hl;exact⟨_,_,1,u,[],0,⟨[],r,0,e1,rfl,rfl,rfl,rfl,rfl⟩,V1 a1 true E.sz E.pos,hK⟩
  ·rename_i k o n c;obtain⟨rfl,wr,g,sz,cs,hk,hcs⟩:=hl;exact⟨_,_,1,u,[],0,⟨l,r,c,e1,rfl,rfl,rfl,rfl,rfl⟩,aEx a1 hk hcs (aD E l) true E.sz E.pos,hK⟩
  exact hl.elim
 intro args h nx K hx;unfold lX at hx;split at hx
 case h_2=>exact hx.elim
 rename_i v r;obtain⟨l,hl,hx⟩:=hx;split at hx
 case h_2=>exact hx.elim
 rename_i p e1;obtain⟨hb,hx⟩:=aE.1 hx;exact⟨p.2,h,nx,hx,fun K' hk=>⟨l,hl,by rw [e1];exact aI hb hk⟩⟩
end
def aA:EP:={ A:=aC,T:=tyT,FT:=look ftL,PL:=plF,PR:=fun _=>false,X:=fun _=>none,M:=0 }
theorem eL:qH Go.Proofs.Tryz.prog aA where
 ar:=rfl
 tab:=M1 aD4
 mixed:=by decide +kernel
 funcs:=RA
 xs:=fun _ _ h=>by cases h
def body (xl:List (Nat × XF)):VC:=tT aA none (CX (look xl)) noY
def lP (xl:List (Nat × XF)):Prop:=∀ p∈xl,cO Go.Proofs.Tryz.prog p.1 p.2
theorem lP.nil:lP []:=fun _ h=>by cases h
theorem lP.cons {f:Nat}{x:XF}{l:List (Nat × XF)}(h:cO Go.Proofs.Tryz.prog f x)(hl:lP l):lP ((f,x)::l):=List.forall_mem_cons.2 ⟨h,hl⟩
theorem lP.look {xl:List (Nat × XF)}(h:lP xl)(f:Nat)(x:XF)(hx:look xl f=some x):cO Go.Proofs.Tryz.prog f x:=h (f,x) (aY hx)
theorem aH {xl:List (Nat × XF)}(h:lP xl):bF Go.Proofs.Tryz.prog (body xl):=vI eL (SB h.look) MU (HC h.look) BK none
def X2 (p:Int × Int):Value:=.agg #[iv p.1,iv p.2]
def aAN:Value→Option Int
 |.int .i64 n=>some n
 |_=>none
def UO:Value→Option (Int × Int)
 |.agg ⟨[.int .i64 x,.int .i64 y]⟩=>some (x,y)
 |_=>none
theorem F0 {v:Value}{n:Int}(h:aAN v=some n):v=iv n:=by
 unfold aAN at h;split at h
 ·injection h with h;subst h;rfl
 ·cases h
theorem A7 {v:Value}{p:Int × Int}(h:UO v=some p):v=X2 p:=by
 unfold UO at h;split at h
 ·injection h with h;subst h;rfl
 ·cases h
def s1P (F:Int × Int→Bool × Value):List Value→Option (Bool × Value)
 |[a]=>(match UO a with|some p=>some (F p)|none=>none)
 |_=>none
theorem aHG {F:Int × Int→Bool × Value}{args:List Value}{r:Bool × Value}(h:s1P F args=some r):∃ p,args=[X2 p]∧F p=r:=by
 unfold s1P at h;split at h
 ·split at h
  ·rename_i p e;injection h with h;exact⟨p,by rw [A7 e],h⟩
  ·cases h
 ·cases h
def s3P (F:Int × Int→Int × Int→Int × Int→Bool × Value):List Value→Option (Bool × Value)
 |[a,b,c]=>(match UO a with|some p=>(match UO b with|some q=>(match UO c with|some r=>some (F p q r)|none=>none)|none=>none)|none=>none)
 |_=>none
theorem aH6 {F:Int × Int→Int × Int→Int × Int→Bool × Value}{args:List Value}{r:Bool × Value}(h:s3P F args=some r):∃ p q s,args=[X2 p,X2 q,X2 s]∧F p q s=r:=by
 unfold s3P at h;split at h
 ·split at h
  ·rename_i p e;split at h
   ·rename_i q e2;split at h
    ·rename_i s e3;injection h with h;exact⟨p,q,s,by rw [A7 e,A7 e2,A7 e3],h⟩
    ·cases h
   ·cases h
  ·cases h
 ·cases h
def s1I (F:Int→Bool × Value):List Value→Option (Bool × Value)
 |[a]=>(match aAN a with|some p=>some (F p)|none=>none)
 |_=>none
theorem aHF {F:Int→Bool × Value}{args:List Value}{r:Bool × Value}(h:s1I F args=some r):∃ p,args=[iv p]∧F p=r:=by
 unfold s1I at h;split at h
 ·split at h
  ·rename_i p e;injection h with h;exact⟨p,by rw [F0 e],h⟩
  ·cases h
 ·cases h
def s2I (F:Int→Int→Bool × Value):List Value→Option (Bool × Value)
 |[a,b]=>(match aAN a with|some p=>(match aAN b with|some q=>some (F p q)|none=>none)|none=>none)
 |_=>none
theorem aHZ {F:Int→Int→Bool × Value}{args:List Value}{r:Bool × Value}(h:s2I F args=some r):∃ p q,args=[iv p,iv q]∧F p q=r:=by
 unfold s2I at h;split at h
 ·split at h
  ·rename_i p e;split at h
   ·rename_i q e2;injection h with h;exact⟨p,q,by rw [F0 e,F0 e2],h⟩
   ·cases h
  ·cases h
 ·cases h
def dE (xl:List (Nat × XF))(f:Nat)(args:List Value)(v:Value):Prop:=body xl f args [] 0 (fun u _ _=>u=v)
theorem x1P {xl:List (Nat × XF)}(hx:lP xl){f:Nat}{F:Int × Int→Bool × Value}(hg:∀ p,gT (F p).2=true)(h:∀ p,(F p).1=true→dE xl f [X2 p] (F p).2):cO Go.Proofs.Tryz.prog f (gX (s1P F)) :=
 yE (aH hx) fun args v hs=>by
  obtain⟨p,rfl,e⟩:=aHG hs;have h1:(F p).1=true:=(by rw [e]);have h2:(F p).2=v:=(by rw [e]);subst h2;exact⟨rfl,hg p,h p h1⟩
theorem x3P {xl:List (Nat × XF)}(hx:lP xl){f:Nat}{F:Int × Int→Int × Int→Int × Int→Bool × Value}(hg:∀ p q r,gT (F p q r).2=true)(h:∀ p q r,(F p q r).1=true→dE xl f [X2 p,X2 q,X2 r] (F p q r).2):cO Go.Proofs.Tryz.prog f (gX (s3P F)) :=
 yE (aH hx) fun args v hs=>by
  obtain⟨p,q,r,rfl,e⟩:=aH6 hs;have h1:(F p q r).1=true:=(by rw [e]);have h2:(F p q r).2=v:=(by rw [e]);subst h2;exact⟨rfl,hg p q r,h p q r h1⟩
theorem x1I {xl:List (Nat × XF)}(hx:lP xl){f:Nat}{F:Int→Bool × Value}(hg:∀ p,gT (F p).2=true)(h:∀ p,(F p).1=true→dE xl f [iv p] (F p).2):cO Go.Proofs.Tryz.prog f (gX (s1I F)) :=
 yE (aH hx) fun args v hs=>by
  obtain⟨p,rfl,e⟩:=aHF hs;have h1:(F p).1=true:=(by rw [e]);have h2:(F p).2=v:=(by rw [e]);subst h2;exact⟨rfl,hg p,h p h1⟩
theorem x2I {xl:List (Nat × XF)}(hx:lP xl){f:Nat}{F:Int→Int→Bool × Value}(hg:∀ p q,gT (F p q).2=true)(h:∀ p q,(F p q).1=true→dE xl f [iv p,iv q] (F p q).2):cO Go.Proofs.Tryz.prog f (gX (s2I F)) :=
 yE (aH hx) fun args v hs=>by
  obtain⟨p,q,rfl,e⟩:=aHZ hs;have h1:(F p q).1=true:=(by rw [e]);have h2:(F p q).2=v:=(by rw [e]);subst h2;exact⟨rfl,hg p q,h p q h1⟩
def bC:El (Int × Int):=⟨fun p=>[iv p.1,iv p.2],2,fun _=>rfl,fun _=>rfl,by decide⟩
def aM (p:Int × Int):Bool:=decide (0≤p.1)&&decide (p.1≤10000)&&decide (0≤p.2)&&decide (p.2≤10000)
def wide (p:Int × Int):Bool:=decide (-1000000≤p.1)&&decide (p.1≤1000000)&&decide (-1000000≤p.2)&&decide (p.2≤1000000)
def aP (a b c:Int × Int):Int:=(b.1 - a.1)*(c.2 - a.2) - (b.2 - a.2)*(c.1 - a.1)
def B7 (n:Int):Int:=if n<0 then -1 else if 0<n then 1 else 0
def iO (a b:Int):Int:=if a<b then -1 else if b<a then 1 else 0
def aV (a b c:Int × Int):Int:=B7 (aP a b c)
set_option maxRecDepth 100000
def X58:Nat × XF:=(77,gX (s1P fun p=>(true,.bool (aM p))))
theorem x58:cO Go.Proofs.Tryz.prog X58.1 X58.2:=x1P .nil (fun _=>rfl) fun p _=>by
 obtain⟨x,y⟩:=p;unfold dE
 repeat' (conv=>whnf
          apply bm<;>intro h)
 all_goals (conv=>whnf)
 all_goals (simp [aA,aC] at *;simp [aM, *] <;> omega)
theorem rP {a b A B:Int}(h1 : -A≤a)(h2:a≤A)(h3 : -B≤b)(h4:b≤B) : -(A*B)≤a*b∧a*b≤A*B:=by
 have e1:=Int.mul_nonneg (show 0≤A - a by omega) (show 0≤B+b by omega);have e2:=Int.mul_nonneg (show 0≤A+a by omega) (show 0≤B - b by omega);have e3:=Int.mul_nonneg (show 0≤A - a by omega) (show 0≤B - b by omega);have e4:=Int.mul_nonneg (show 0≤A+a by omega) (show 0≤B+b by omega);simp only [Int.sub_mul,Int.mul_sub,Int.add_mul,Int.mul_add] at e1 e2 e3 e4;omega
set_option maxRecDepth 100000
def X56:Nat × XF:=(96,gX (s1P fun p=>(true,.bool (aM p))))
theorem x56:cO Go.Proofs.Tryz.prog X56.1 X56.2:=x1P .nil (fun _=>rfl) fun p _=>by
 obtain⟨x,y⟩:=p;unfold dE
 repeat' (conv=>whnf
          apply bm<;>intro h)
 all_goals (conv=>whnf)
 all_goals (simp [aA,aC] at *;simp [aM, *] <;> omega)
def aLp:Nat × XF:=(161,gX (s1I fun p=>(true,.bool false)))
theorem aPt:cO Go.Proofs.Tryz.prog aLp.1 aLp.2:=x1I .nil (fun _=>rfl) fun p _=>by
 unfold dE
 repeat' (conv=>whnf
          apply bm<;>intro h)
 all_goals (conv=>whnf)
 all_goals (simp [aA,aC] at *)
def R6:Nat × XF:=(124,gX (s2I fun p q=>(true,iv (iO p q))))
theorem UE:cO Go.Proofs.Tryz.prog R6.1 R6.2:=x2I (xl:=[aLp]) (.cons aPt .nil) (fun _ _=>rfl) fun p q _=>by
 unfold dE
 repeat' (conv=>whnf
          apply bm<;>intro h)
 all_goals (conv=>whnf)
 all_goals (simp [aA,aC] at *;simp [iO,iv] <;> omega)
def aMc:Nat × XF:=(165,gX (s1I fun p=>(true,iv (B7 p))))
theorem aQ3:cO Go.Proofs.Tryz.prog aMc.1 aMc.2:=x1I .nil (fun _=>rfl) fun p _=>by
 unfold dE
 repeat' (conv=>whnf
          apply bm<;>intro h)
 all_goals (conv=>whnf)
 all_goals (simp [aA,aC] at *;simp [B7,iv] <;> omega)
def aKM:Nat × XF:=(169,gX (s3P fun a b c=>(wide a&&wide b&&wide c,iv (aP a b c))))
theorem aPY:cO Go.Proofs.Tryz.prog aKM.1 aKM.2:=x3P .nil (fun _ _ _=>rfl) fun a b c hp=>by
 obtain⟨ax,ay⟩:=a;obtain⟨bx,b_y⟩:=b;obtain⟨cx,cy⟩:=c;simp only [wide,Bool.and_eq_true,decide_eq_true_eq] at hp;have m1:=rP (a:=bx - ax) (b:=cy - ay) (A:=2000000) (B:=2000000) (by omega) (by omega) (by omega) (by omega);have m2:=rP (a:=b_y - ay) (b:=cx - ax) (A:=2000000) (B:=2000000) (by omega) (by omega) (by omega) (by omega);unfold dE
 repeat' (conv=>whnf
          apply bm<;>intro h)
 all_goals (conv=>whnf)
 all_goals (simp [aA,aC,aF] at *)
 all_goals first|omega|simp [aP,iv]
def X55:Nat × XF:=(141,gX (s3P fun a b c=>(wide a&&wide b&&wide c,iv (aV a b c))))
theorem x55:cO Go.Proofs.Tryz.prog X55.1 X55.2:=x3P (xl:=[R6,aKM]) (.cons UE (.cons aPY .nil)) (fun _ _ _=>rfl) fun a b c hp=>by
 obtain⟨ax,ay⟩:=a;obtain⟨bx,b_y⟩:=b;obtain⟨cx,cy⟩:=c;unfold dE
 repeat' (conv=>whnf
          apply bm<;>intro h)
 all_goals (conv=>whnf)
 all_goals (simp at *)
 ·simp [aV,iO,B7,iv]
 simp_all
def X57:Nat × XF:=(164,gX (s3P fun a b c=>(wide a&&wide b&&wide c,iv (aV a b c))))
theorem x57:cO Go.Proofs.Tryz.prog X57.1 X57.2:=x3P (xl:=[aMc]) (.cons aQ3 .nil) (fun _ _ _=>rfl) fun a b c hp=>by
 obtain⟨ax,ay⟩:=a;obtain⟨bx,b_y⟩:=b;obtain⟨cx,cy⟩:=c;simp only [wide,Bool.and_eq_true,decide_eq_true_eq] at hp;have m1:=rP (a:=bx - ax) (b:=cy - ay) (A:=2000000) (B:=2000000) (by omega) (by omega) (by omega) (by omega);have m2:=rP (a:=b_y - ay) (b:=cx - ax) (A:=2000000) (B:=2000000) (by omega) (by omega) (by omega) (by omega);unfold dE
 repeat' (conv=>whnf
          apply bm<;>intro h)
 all_goals (conv=>whnf)
 all_goals (simp [aA,aC,aF] at *)
 all_goals first|omega|simp [aV,aP,B7,iv]
def X17:Nat × XF:=(32,gX (s1P fun p=>(true,iv (if aM p then 0 else 1))))
theorem x17:cO Go.Proofs.Tryz.prog X17.1 X17.2:=x1P (xl:=[X58]) (.cons x58 .nil) (fun _=>rfl) fun p _=>by
 obtain⟨x,y⟩:=p;unfold dE
 repeat' (conv=>whnf
          apply bm<;>intro h)
 all_goals (conv=>whnf)
 all_goals (simp [aA,aC] at *;simp [iv, *])
def X18:Nat × XF:=(51,gX (s1P fun p=>(true,iv (if aM p then 0 else 1))))
theorem x18:cO Go.Proofs.Tryz.prog X18.1 X18.2:=x1P (xl:=[X56]) (.cons x56 .nil) (fun _=>rfl) fun p _=>by
 obtain⟨x,y⟩:=p;unfold dE
 repeat' (conv=>whnf
          apply bm<;>intro h)
 all_goals (conv=>whnf)
 all_goals (simp [aA,aC] at *;simp [iv, *])
theorem lB {p:Int × Int}(h:aM p=true):wide p=true:=by
 simp only [aM,wide,Bool.and_eq_true,decide_eq_true_eq] at *;omega
def tS (a b c:Int × Int):Int:=if aM a&&aM b&&aM c then aV a b c else 0
def aK4:Nat × XF:=(139,gX (s1P fun p=>(true,.bool (!aM p))))
theorem aPn:cO Go.Proofs.Tryz.prog aK4.1 aK4.2:=x1P (xl:=[X58]) (.cons x58 .nil) (fun _=>rfl) fun p _=>by
 obtain⟨x,y⟩:=p;unfold dE
 repeat' (conv=>whnf
          apply bm<;>intro h)
 all_goals (conv=>whnf)
 all_goals (simp [aA,aC] at *)
set_option maxRecDepth 100000
def kO:List (Int × Int)→Nat→Int
 |[],_=>-1
 |p::r,i=>if aM p then kO r (i+1) else i
def BN:Value:=.func (.func 139) #[] #[]
def aJN (l:List (Int × Int)):List Value→Option (Bool × Value)
 |[.func (.func 139) ⟨[]⟩ ⟨[]⟩]=>some (decide (l.length≤1000000000),iv (kO l 0))
 |_=>none
theorem aFa {l:List (Int × Int)}{r:List Value}{v:Value}(h:aJN l r=some (true,v)):r=[BN]∧l.length≤1000000000∧v=iv (kO l 0):=by
 unfold aJN at h;split at h
 ·injection h with h;injection h with h1 h2;exact⟨rfl,by simpa using h1,h2.symm⟩
 ·cases h
def aM3:Nat × XF:=(167,lX bC aJN)
theorem aQ4:cO Go.Proofs.Tryz.prog aM3.1 aM3.2:=HI bC (aH (xl:=[aK4]) (.cons aPn .nil)) fun l r v hs=>by
 obtain⟨rfl,hlen,rfl⟩:=aFa hs;refine⟨rfl,rfl,fun c=>?_⟩
 conv=>whnf
 refine⟨fun n e h nx=>∃ (i:Nat) (j:Int),j=i∧i≤l.length∧n=l.length - i∧kO l 0=kO (l.drop i) i ∧
  e=[(0,.slice (some ⟨0,0,none⟩) l.length c),(1,BN),(7,iv l.length),(8,iv j)]∧h=[(0,.cells false true 2 (flat bC.fl l))]∧nx=1,⟨l.length,?_⟩,?_⟩
 ·refine aJ (e0:=[(0,.slice (some ⟨0,0,none⟩) l.length c),(1,BN),(7,iv l.length),(8,iv 0)]) (h0:=[(0,.cells false true 2 (flat bC.fl l))]) (n0:=1)
   ⟨0,0,rfl,Nat.zero_le _,rfl,rfl,rfl,rfl,rfl⟩ ?_ ?_ (Nat.le_refl _)
  ·exact List.forall_mem_cons.2 ⟨⟨rfl,Nat.one_pos,fun h=>(by cases h)⟩,List.forall_mem_cons.2 ⟨⟨(by show _=some (iM id BN);rw [gE (show gT BN=true from rfl)];rfl),cG rfl⟩,List.forall_mem_cons.2 ⟨⟨rfl,cG rfl⟩,List.forall_mem_cons.2 ⟨⟨rfl,cG rfl⟩,fun _ h=>(by cases h)⟩⟩⟩⟩
  exact List.forall_mem_cons.2 ⟨⟨Nat.one_pos,_,rfl,aO (aD bC l)⟩,fun _ h=>(by cases h)⟩
 rintro n e h nx ⟨i,j,hj,hi,rfl,hb,rfl,rfl,rfl⟩
 conv=>whnf
 apply bm<;>intro h1
 ·have hlt:i<l.length:=by simp [aA,aC] at h1;omega
  conv=>whnf
  apply bm<;>intro h2
  ·conv=>whnf
   refine n8 (vL bC l hlt ?ho) ?_
   case ho=>simp [aA,aC,bC,hj]
   have hd:l.drop i=l[i]::l.drop (i+1):=List.drop_eq_getElem_cons hlt;rw [hd] at hb;generalize l[i]=p at hb;obtain⟨x,y⟩:=p
   conv=>whnf
   apply bm<;>intro h3
   ·conv=>whnf
    simp only [Bool.not_eq_true'] at h3;rw [hb,hj];simp only [kO,h3];rfl
   conv=>whnf
   apply bm<;>intro h4
   ·conv=>whnf
    simp only [Bool.not_eq_false'] at h3;refine⟨l.length - (i+1),by omega,?_⟩
    refine aJ (e0:=[(0,.slice (some ⟨0,0,none⟩) l.length c),(1,BN),(7,iv l.length),(8,iv (j+1))]) (h0:=[(0,.cells false true 2 (flat bC.fl l))]) (n0:=1)
     ⟨i+1,j+1,by omega,hlt,rfl,?_,rfl,rfl,rfl⟩ ?_ ?_ (Nat.le_refl _)
    ·rw [hb];simp only [kO,h3,if_true]
    ·exact List.forall_mem_cons.2 ⟨⟨rfl,Nat.one_pos,fun h=>(by cases h)⟩,List.forall_mem_cons.2 ⟨⟨(by show _=some (iM id BN);rw [gE (show gT BN=true from rfl)];rfl),cG rfl⟩,List.forall_mem_cons.2 ⟨⟨rfl,cG rfl⟩,List.forall_mem_cons.2 ⟨⟨rfl,cG rfl⟩,fun _ h=>(by cases h)⟩⟩⟩⟩
    exact List.forall_mem_cons.2 ⟨⟨Nat.one_pos,_,rfl,aO (aD bC l)⟩,fun _ h=>(by cases h)⟩
   simp [aA,aC,aF] at h4;omega
  simp [aA,aC] at h2;omega
 have hlt:l.length≤i:=by simp [aA,aC] at h1;omega
 conv=>whnf
 rw [hb,List.drop_eq_nil_of_le hlt];rfl
theorem BC:∀ (l:List (Int × Int)) (i:Nat),decide (0≤kO l i)=!(l.all aM)
 |[],i=>rfl
 |p::r,i=>by
  by_cases hp:aM p=true
  ·simp only [kO,List.all_cons,hp,if_true,Bool.true_and];exact BC r (i+1)
  have hp':aM p=false:=(by simpa using hp);simp [kO,List.all_cons,hp']
def S99 (l:List (Int × Int)):List Value→Option (Bool × Value)
 |[.func (.func 139) ⟨[]⟩ ⟨[]⟩]=>some (decide (l.length≤1000000000),.bool (!(l.all aM)))
 |_=>none
theorem aGo {l:List (Int × Int)}{r:List Value}{v:Value}(h:S99 l r=some (true,v)):r=[BN]∧l.length≤1000000000∧v=.bool (!(l.all aM)):=by
 unfold S99 at h;split at h
 ·injection h with h;injection h with h1 h2;exact⟨rfl,by simpa using h1,h2.symm⟩
 ·cases h
theorem IU {α:Type}(E:El α){l:List α}{c:Nat}{wr g:Bool}{sz:Nat}{h:Heap}(hk:look h 0=some (.cells wr g sz (flat E.fl l))):jG E h (.slice (some ⟨0,0,none⟩) l.length c) l :=
 ⟨rfl,wr,g,sz,_,hk,by rw [List.drop_zero,List.take_length]⟩
def X99:Nat × XF:=(138,lX bC S99)
theorem x99:cO Go.Proofs.Tryz.prog X99.1 X99.2:=HI bC (aH (xl:=[aM3]) (.cons aQ4 .nil)) fun l r v hs=>by
 obtain⟨rfl,hlen,rfl⟩:=aGo hs;refine⟨rfl,rfl,fun c=>?_⟩
 conv=>whnf
 refine⟨l,IU bC rfl,?_⟩
 conv=>whnf
 apply bm<;>intro h1
 ·conv=>whnf
  rw [← BC l 0];rfl
 exact absurd hlen (by simpa using h1)
def S54 (l:List (Int × Int)):List Value→Option (Bool × Value)
 |[]=>some (decide (l.length≤1000000000),.bool (l.all aM))
 |_=>none
theorem aHf {l:List (Int × Int)}{r:List Value}{v:Value}(h:S54 l r=some (true,v)):r=[]∧l.length≤1000000000∧v=.bool (l.all aM):=by
 unfold S54 at h;split at h
 ·injection h with h;injection h with h1 h2;exact⟨rfl,by simpa using h1,h2.symm⟩
 ·cases h
def X54:Nat × XF:=(75,lX bC S54)
theorem x54:cO Go.Proofs.Tryz.prog X54.1 X54.2:=HI bC (aH (xl:=[X99]) (.cons x99 .nil)) fun l r v hs=>by
 obtain⟨rfl,hlen,rfl⟩:=aHf hs;refine⟨rfl,rfl,fun c=>?_⟩
 conv=>whnf
 refine⟨l,IU bC rfl,?_⟩
 conv=>whnf
 apply bm<;>intro h1
 ·conv=>whnf
  simp [aA,aC]
 exact absurd hlen (by simpa using h1)
def X15:Nat × XF:=(92,gX (s3P fun a b c=>(true,iv (tS a b c))))
theorem x15:cO Go.Proofs.Tryz.prog X15.1 X15.2:=x3P (xl:=[X54,X55]) (.cons x54 (.cons x55 .nil)) (fun _ _ _=>rfl) fun a b c hp=>by
 obtain⟨ax,ay⟩:=a;obtain⟨bx,b_y⟩:=b;obtain⟨cx,cy⟩:=c;unfold dE
 conv=>whnf
 refine⟨[(ax,ay),(bx,b_y),(cx,cy)],⟨rfl,_,_,_,_,rfl,rfl⟩,?_⟩
 repeat' (conv=>whnf
          apply bm<;>intro h)
 all_goals (conv=>whnf)
 all_goals (clear hp;simp only [aA,aC,tS] at *;simp at *)
 all_goals (cases ha:aM (ax,ay) <;> cases hb:aM (bx,b_y) <;> cases hc:aM (cx,cy) <;> simp_all [lB,iv])
def s0 (v:Value):List Value→Option (Bool × Value)
 |[]=>some (true,v)
 |_=>none
theorem W2 (a b c:Int × Int):aP b a c = - aP a b c:=by
 simp only [aP,Int.sub_mul,Int.mul_sub];have h1:=Int.mul_comm a.1 b.2;have h2:=Int.mul_comm a.2 b.1;have h3:=Int.mul_comm a.1 c.2;have h4:=Int.mul_comm a.2 c.1;have h5:=Int.mul_comm b.1 c.2;have h6:=Int.mul_comm b.2 c.1;have h7:=Int.mul_comm a.1 a.2;have h8:=Int.mul_comm b.1 b.2;omega
theorem mY (a b c:Int × Int) : -1≤aV a b c∧aV a b c≤1:=by
 unfold aV B7;split <;> (try split) <;> omega
end Go.Aw
end

namespace Go.Aw
theorem lN {D u:Int}(hD:0<D)(h:0≤D*u):0≤u:=by
 by_cases hu:0≤u
 ·exact hu
 have:0<D*(-u):=Int.mul_pos hD (by omega);rw [Int.mul_neg] at this;omega
theorem aOn {D E t u:Int}(h:D*u=E*t)(hD:0<D)(h0:0≤t)(h1:t≤D):(0≤E→0≤u∧u≤E)∧(E≤0→E≤u∧u≤0):=by
 refine⟨fun hE=>⟨?_,?_⟩,fun hE=>⟨?_,?_⟩⟩
 ·exact lN hD (by rw [h];exact Int.mul_nonneg hE h0)
 ·have h2:0≤D*(E - u):=by
   rw [Int.mul_sub,h,Int.mul_comm D E,← Int.mul_sub];exact Int.mul_nonneg hE (by omega)
  have:=lN hD h2;omega
 ·have h2:0≤D*(u - E):=by
   rw [Int.mul_sub,h,Int.mul_comm D E,← Int.mul_sub];rw [show E*(t - D)=(-E)*(D - t) by rw [Int.neg_mul,← Int.mul_neg];congr 1;omega];exact Int.mul_nonneg (by omega) (by omega)
  have:=lN hD h2;omega
 have h2:0≤D*(-u):=by
  rw [Int.mul_neg,h,← Int.neg_mul];exact Int.mul_nonneg (by omega) h0
 have:=lN hD h2;omega
theorem aEV {D u:Int}(h:D*u=0)(hD:D≠0):u=0:=by
 rcases Int.mul_eq_zero.1 h with h|h
 ·exact absurd h hD
 exact h
theorem aAq {ax ay bx b2 px py:Int}(h:(bx - ax)*(py - ay)=(b2 - ay)*(px - ax))(hlt:ax<bx) :
  ((ax<px∨(ax=px∧ay≤py))∧(px<bx∨(px=bx∧py≤b2)))↔((ax≤px∧px≤bx)∧((ay≤b2→ay≤py∧py≤b2)∧(b2≤ay→b2≤py∧py≤ay))):=by
 constructor
 ·intro⟨h1,h2⟩;have hx:ax≤px∧px≤bx:=(by omega);have hc:=aOn (D:=bx - ax) (E:=b2 - ay) (t:=px - ax) (u:=py - ay) h (by omega) (by omega) (by omega);refine⟨hx,fun he=>?_,fun he=>?_⟩
  ·have:=hc.1 (by omega);omega
  have:=hc.2 (by omega);omega
 intro⟨h1,h2,h3⟩;have hc:=aOn (D:=bx - ax) (E:=b2 - ay) (t:=px - ax) (u:=py - ay) h (by omega) (by omega) (by omega);refine⟨?_,?_⟩
 ·by_cases e:ax<px
  ·exact .inl e
  have e:ax=px:=(by omega);subst e;rw [Int.sub_self,Int.mul_zero] at h;have:=aEV h (by omega);exact .inr ⟨rfl,by omega⟩
 by_cases e:px<bx
 ·exact .inl e
 have e:px=bx:=(by omega);subst e;have h4:(px - ax)*(py - b2)=0:=by
  rw [show py - b2=(py - ay) - (b2 - ay) by omega,Int.mul_sub,h,Int.mul_comm (b2 - ay)];omega
 have:=aEV h4 (by omega);exact .inr ⟨rfl,by omega⟩
end Go.Aw

noncomputable section
namespace Go.Aw
set_option maxRecDepth 100000
structure Cd (α:Type) where
 dec:Value→Option α
 enc:α→Value
 ok:∀ v a,dec v=some a→v=enc a
 gr:∀ a,gA (enc a)=true
def cI:Cd Int:=⟨aAN,iv,fun _ _ h=>F0 h,fun _=>rfl⟩
def cP:Cd (Int × Int):=⟨UO,X2,fun _ _ h=>A7 h,fun _=>rfl⟩
abbrev Sg:=(Int × Int) × (Int × Int)
def sgv (s:Sg):Value:=.agg #[iv s.1.1,iv s.1.2,iv s.2.1,iv s.2.2]
def aF0:Value→Option Sg
 |.agg ⟨[.int .i64 a,.int .i64 b,.int .i64 c,.int .i64 d]⟩=>some ((a,b),(c,d))
 |_=>none
theorem OF {v:Value}{s:Sg}(h:aF0 v=some s):v=sgv s:=by
 unfold aF0 at h;split at h
 ·injection h with h;subst h;rfl
 ·cases h
def cS:Cd Sg:=⟨aF0,sgv,fun _ _ h=>OF h,fun _=>rfl⟩
section
variable {α β γ:Type}(a:Cd α)(b:Cd β)(c:Cd γ)
def s1 (F:α→Bool × Value):List Value→Option (Bool × Value)
 |[u]=>(match a.dec u with|some x=>some (F x)|none=>none)
 |_=>none
def s2 (F:α→β→Bool × Value):List Value→Option (Bool × Value)
 |[u,v]=>(match a.dec u with|some x=>(match b.dec v with|some y=>some (F x y)|none=>none)|none=>none)
 |_=>none
def s3 (F:α→β→γ→Bool × Value):List Value→Option (Bool × Value)
 |[u,v,w]=>(match a.dec u with|some x=>(match b.dec v with|some y=>(match c.dec w with|some z=>some (F x y z)|none=>none)|none=>none)|none=>none)
 |_=>none
theorem aKI {F:α→Bool × Value}{args:List Value}{r:Bool × Value}(h:s1 a F args=some r):∃ x,args=[a.enc x]∧F x=r:=by
 unfold s1 at h;split at h
 ·split at h
  ·rename_i x e;injection h with h;exact⟨x,by rw [a.ok _ _ e],h⟩
  ·cases h
 ·cases h
theorem aJE {F:α→β→Bool × Value}{args:List Value}{r:Bool × Value}(h:s2 a b F args=some r):∃ x y,args=[a.enc x,b.enc y]∧F x y=r:=by
 unfold s2 at h;split at h
 ·split at h
  ·rename_i x e;split at h
   ·rename_i y e2;injection h with h;exact⟨x,y,by rw [a.ok _ _ e,b.ok _ _ e2],h⟩
   ·cases h
  ·cases h
 ·cases h
theorem aCh {F:α→β→γ→Bool × Value}{args:List Value}{r:Bool × Value}(h:s3 a b c F args=some r):∃ x y z,args=[a.enc x,b.enc y,c.enc z]∧F x y z=r:=by
 unfold s3 at h;split at h
 ·split at h
  ·rename_i x e;split at h
   ·rename_i y e2;split at h
    ·rename_i z e3;injection h with h;exact⟨x,y,z,by rw [a.ok _ _ e,b.ok _ _ e2,c.ok _ _ e3],h⟩
    ·cases h
   ·cases h
  ·cases h
 ·cases h
theorem x1 {xl:List (Nat × XF)}(hx:lP xl){f:Nat}{F:α→Bool × Value}(hg:∀ x,gT (F x).2=true)(h:∀ x,(F x).1=true→dE xl f [a.enc x] (F x).2):cO Go.Proofs.Tryz.prog f (gX (s1 a F)) :=
 yE (aH hx) fun args v hs=>by
  obtain⟨x,rfl,e⟩:=aKI a hs;have h1:(F x).1=true:=(by rw [e]);have h2:(F x).2=v:=(by rw [e]);subst h2;exact⟨by simp [eX,a.gr],hg x,h x h1⟩
theorem x2 {xl:List (Nat × XF)}(hx:lP xl){f:Nat}{F:α→β→Bool × Value}(hg:∀ x y,gT (F x y).2=true)(h:∀ x y,(F x y).1=true→dE xl f [a.enc x,b.enc y] (F x y).2):cO Go.Proofs.Tryz.prog f (gX (s2 a b F)) :=
 yE (aH hx) fun args v hs=>by
  obtain⟨x,y,rfl,e⟩:=aJE a b hs;have h1:(F x y).1=true:=(by rw [e]);have h2:(F x y).2=v:=(by rw [e]);subst h2;exact⟨by simp [eX,a.gr,b.gr],hg x y,h x y h1⟩
theorem x3 {xl:List (Nat × XF)}(hx:lP xl){f:Nat}{F:α→β→γ→Bool × Value}(hg:∀ x y z,gT (F x y z).2=true)(h:∀ x y z,(F x y z).1=true→dE xl f [a.enc x,b.enc y,c.enc z] (F x y z).2):cO Go.Proofs.Tryz.prog f (gX (s3 a b c F)) :=
 yE (aH hx) fun args v hs=>by
  obtain⟨x,y,z,rfl,e⟩:=aCh a b c hs;have h1:(F x y z).1=true:=(by rw [e]);have h2:(F x y z).2=v:=(by rw [e]);subst h2;exact⟨by simp [eX,a.gr,b.gr,c.gr],hg x y z,h x y z h1⟩
end
def aOG (xl:List (Nat × XF))(n:Nat):VC:=tT aA (some n) (CX (look xl)) noY
theorem m7 {xl:List (Nat × XF)}(h:lP xl)(n:Nat):bF Go.Proofs.Tryz.prog (aOG xl n):=vI eL (SB h.look) MU (HC h.look) BK (some n)
def aT:El Int:=⟨fun n=>[iv n],1,fun _=>rfl,fun _=>rfl,by decide⟩
def orI (a b:Int):Int:=if a=0 then b else a
def aNG:List Int→List Value→Option (Bool × Value)
 |[a,b],[]=>some (true,iv (orI a b))
 |_,_=>none
def aEM:Nat × XF:=(123,lX aT aNG)
theorem aJR:cO Go.Proofs.Tryz.prog aEM.1 aEM.2:=HI aT (m7 (xl:=[]) .nil 4) fun l r v hs=>by
 have:∃ a b,l=[a,b]∧r=[]∧v=iv (orI a b):=by
  unfold aNG at hs;split at hs
  ·injection hs with hs;injection hs with _ h2;exact⟨_,_,rfl,rfl,h2.symm⟩
  ·cases hs
 obtain⟨a,b,rfl,rfl,rfl⟩:=this;refine⟨rfl,rfl,fun c=>?_⟩
 repeat' (conv=>whnf
          apply bm<;>intro h)
 all_goals (conv=>whnf)
 all_goals (simp only [aA,aC,iv,orI] at *;simp at *)
 all_goals (try simp_all)
theorem EY (p:Int × Int):(p.1,p.2)=p:=rfl
def kN (a b:Int × Int):Int:=orI (iO a.1 b.1) (iO a.2 b.2)
def aFn:Nat × XF:=(113,gX (s2 cP cP fun a b=>(true,iv (kN a b))))
theorem aH5:cO Go.Proofs.Tryz.prog aFn.1 aFn.2:=x2 cP cP (xl:=[R6,aEM]) (.cons UE (.cons aJR .nil)) (fun _ _=>rfl) fun a b _=>by
 obtain⟨ax,ay⟩:=a;obtain⟨bx,b_y⟩:=b;unfold dE
 conv=>whnf
 refine⟨[iO ax bx,iO ay b_y],⟨rfl,_,_,_,_,rfl,rfl⟩,?_⟩
 conv=>whnf
 rfl
def bM (s:Sg):(Int × Int) × (Int × Int):=if 0<kN s.1 s.2 then (s.2,s.1) else (s.1,s.2)
def X74:Nat × XF:=(157,gX (s1 cS fun s=>(true,.tuple #[X2 (bM s).1,X2 (bM s).2])))
theorem x74:cO Go.Proofs.Tryz.prog X74.1 X74.2:=x1 cS (xl:=[aFn]) (.cons aH5 .nil) (fun _=>rfl) fun s _=>by
 obtain⟨⟨ax,ay⟩,⟨bx,b_y⟩⟩:=s;unfold dE
 repeat' (conv=>whnf
          apply bm<;>intro h)
 all_goals (conv=>whnf)
 all_goals (simp only [aA,aC,decide_eq_true_eq,decide_eq_false_iff_not] at h)
 ·simp [bM,h,X2,iv]
 simp [bM,h,X2,iv]
def KZ (p:Int × Int)(s:Sg):Bool:=decide (kN (bM s).1 p≤0)&&decide (kN p (bM s).2≤0)
def aKw:Nat × XF:=(168,gX (s2 cP cS fun p s=>(true,.bool (KZ p s))))
theorem aPR:cO Go.Proofs.Tryz.prog aKw.1 aKw.2:=x2 cP cS (xl:=[aFn,X74]) (.cons aH5 (.cons x74 .nil)) (fun _ _=>rfl) fun p s _=>by
 obtain⟨px,py⟩:=p;obtain⟨⟨ax,ay⟩,⟨bx,b_y⟩⟩:=s;unfold dE
 repeat' (conv=>whnf
          apply bm<;>intro h)
 all_goals (conv=>whnf)
 all_goals (simp only [aA,aC,EY] at *;simp at h ⊢;simp [KZ, *] <;> omega)
def jE (s:Sg):Bool:=wide s.1&&wide s.2
def onS (p:Int × Int)(s:Sg):Bool:=decide (aV s.1 s.2 p=0)&&KZ p s
def X65:Nat × XF:=(140,gX (s2 cP cS fun p s=>(wide p&&jE s,.bool (onS p s))))
theorem x65:cO Go.Proofs.Tryz.prog X65.1 X65.2:=x2 cP cS (xl:=[X55,aKw]) (.cons x55 (.cons aPR .nil)) (fun _ _=>rfl) fun p s hp=>by
 obtain⟨px,py⟩:=p;obtain⟨⟨ax,ay⟩,⟨bx,b_y⟩⟩:=s;simp only [jE,Bool.and_eq_true] at hp;unfold dE
 repeat' (conv=>whnf
          apply bm<;>intro h)
 all_goals (conv=>whnf)
 all_goals (simp only [aA,aC,EY] at *;(try simp at h);(try simp);(try simp_all [onS]))
def kD (a b:Int × Int):Bool:=decide (a.1=b.1)&&(decide (a.2=b.2)&&true)
def dL (s:Sg):Bool:=aM s.1&&aM s.2&&!(kD s.1 s.2)
def X64:Nat × XF:=(110,gX (s1 cS fun s=>(true,.bool (dL s))))
theorem x64:cO Go.Proofs.Tryz.prog X64.1 X64.2:=x1 cS (xl:=[X58]) (.cons x58 .nil) (fun _=>rfl) fun s _=>by
 obtain⟨⟨ax,ay⟩,⟨bx,b_y⟩⟩:=s;unfold dE
 repeat' (conv=>whnf
          apply bm<;>intro h)
 all_goals (conv=>whnf)
 all_goals (simp [aA,aC,kD] at *;simp [dL,kD, *])
def F3 (p:Int × Int)(s:Sg):Bool:=aM p&&dL s&&onS p s
theorem qF {s:Sg}(h:dL s=true):jE s=true:=by
 simp only [dL,jE,Bool.and_eq_true] at *;exact⟨lB h.1.1,lB h.1.2⟩
def X20:Nat × XF:=(91,gX (s2 cP cS fun p s=>(true,.bool (F3 p s))))
theorem x20:cO Go.Proofs.Tryz.prog X20.1 X20.2:=x2 cP cS (xl:=[X58,X64,X65]) (.cons x58 (.cons x64 (.cons x65 .nil))) (fun _ _=>rfl) fun p s hp=>by
 obtain⟨px,py⟩:=p;obtain⟨⟨ax,ay⟩,⟨bx,b_y⟩⟩:=s;unfold dE
 repeat' (conv=>whnf
          apply bm<;>intro h)
 all_goals (conv=>whnf)
 all_goals (simp [aA,aC] at *)
 all_goals first|(simp [F3, *];done)|(simp_all [F3,lB,qF];done)
theorem m0 {α:Type}(E:El α)(l:List α){i k o:Nat}{v:Value}(hi:i<l.length)(hk:(E.fl l[i])[k]? = some v)(hks:k<E.sz)(ho:o=i*E.sz+k):nth (flat E.fl l) o=some v:=by
 subst ho;have h1:=ND E l i hi;rw [y6,← hk,← h1,List.getElem?_take_of_lt hks,List.getElem?_drop]
theorem aQz (l:List (Int × Int)){i o:Nat}(hi:i<l.length)(ho:o=i*2):nth (flat bC.fl l) o=some (iv l[i].1) :=
 m0 bC l (k:=0) hi rfl (by decide) (by simp [ho,bC])
def mx (a b:Int):Int:=if a<b then b else a
theorem qW (a b:Int):aA.A.add a b=a+b:=rfl
theorem OK (a b:Int):aA.A.mul a b=a*b:=rfl
theorem oX (a b:Int):aA.A.lt a b=decide (a<b):=rfl
theorem YD (a b:Int):aA.A.le a b=decide (a≤b):=rfl
theorem L4 (a b:Int):aA.A.eq a b=decide (a=b):=rfl
theorem j0 (k:IntKind)(a:Int):aA.A.fits k a=aF k a:=rfl
theorem rA (a:Nat):aA.A.num a=(a:Int):=rfl
theorem w8 (a b:Bool):aA.A.andB a b=(a&&b):=rfl
theorem mP (a:Bool):aA.A.notB a=!a:=rfl
theorem jR (a b:Bool):aA.A.eqB a b=(a == b):=rfl
def fA (l:List (Int × Int))(i:Nat):Int × Int:=l.getD i (0,0)
theorem nK {l:List (Int × Int)}{i:Nat}(h:i<l.length):fA l i=l[i]:=by
 unfold fA;rw [List.getD_eq_getElem?_getD,List.getElem?_eq_getElem h];rfl
theorem MH (l:List (Int × Int)){i o:Nat}(hi:i<l.length)(ho:o=i*2):nth (flat bC.fl l) o=some (iv (fA l i).1):=by rw [nK hi];exact aQz l hi ho
theorem QK (l:List (Int × Int)){i o:Nat}(hi:i<l.length)(ho:o=i*2):pC (flat bC.fl l) o 2=some [iv (fA l i).1,iv (fA l i).2]:=by
 rw [nK hi];exact vL bC l hi ho
def HR (s t:Sg):Int × Int:=if kN (bM s).1 (bM t).1<0 then (bM t).1 else (bM s).1
def vW (s t:Sg):Int × Int:=if kN (bM t).2 (bM s).2<0 then (bM t).2 else (bM s).2
def aI4 (o:Int):Int:=if o = -1 then 4 else if o=0 then 1 else 0
def QD (a b c d:Int):Int :=
 if 0<a*b∨0<c*d then 0
 else if (c=0∨d=0)∧(a=0∨b=0) then 1
 else if (c=0∨d=0)∨(a=0∨b=0) then 2
 else 3
def gV (s t:Sg):Int :=
 if aV s.1 s.2 t.1=0∧aV s.1 s.2 t.2=0 then aI4 (kN (HR s t) (vW s t))
 else QD (aV s.1 s.2 t.1) (aV s.1 s.2 t.2) (aV t.1 t.2 s.1) (aV t.1 t.2 s.2)
def u8 (n:Int):Value:=.int .u8 n
theorem zV (a b:Int × Int):kN a b = -1∨kN a b=0∨kN a b=1:=by
 unfold kN orI iO;split <;> split <;> (try split) <;> (try split) <;> omega
theorem aGb {o:Int}(h:o = -1∨o=0∨o=1){k:Nat}(hk:k=(o+1).toNat):nth [u8 4,u8 1,u8 0] k=some (u8 (aI4 o)):=by
 subst hk;rcases h with rfl|rfl|rfl <;> rfl
theorem aHb (a b:Int × Int):aA.A.fits .i64 (aA.A.add (kN a b) 1)=true:=by
 rcases zV a b with e|e|e <;> rw [e] <;> rfl
theorem aKV (a b:Int × Int):aA.A.andB (aA.A.le 0 (aA.A.add (kN a b) 1)) (aA.A.lt (aA.A.add (kN a b) 1) (aA.A.num 3))=true:=by
 rcases zV a b with e|e|e <;> rw [e] <;> rfl
def X68:Nat × XF:=(107,gX (s2 cS cS fun s t=>(jE s&&jE t,u8 (gV s t))))
theorem x68:cO Go.Proofs.Tryz.prog X68.1 X68.2:=x2 cS cS (xl:=[X55,X74,aFn]) (.cons x55 (.cons x74 (.cons aH5 .nil))) (fun _ _=>rfl) fun s t hp=>by
 obtain⟨⟨ax,ay⟩,⟨bx,b2⟩⟩:=s;obtain⟨⟨cx,cy⟩,⟨dx,dy⟩⟩:=t;have l1:=mY (ax,ay) (bx,b2) (cx,cy);have l2:=mY (ax,ay) (bx,b2) (dx,dy);have l3:=mY (cx,cy) (dx,dy) (ax,ay);have l4:=mY (cx,cy) (dx,dy) (bx,b2);have m1:=rP (A:=1) (B:=1) l1.1 l1.2 l2.1 l2.2;have m2:=rP (A:=1) (B:=1) l3.1 l3.2 l4.1 l4.2;simp only [jE,Bool.and_eq_true] at hp;unfold dE
 repeat' (conv=>whnf
          apply bm<;>intro h)
 all_goals (try (refine iU (aGb (zV _ _) (by show 0+(_+1:Int).toNat*1=_;rw [Nat.zero_add,Nat.mul_one])) ?_))
 all_goals (try (conv=>whnf))
 all_goals (clear l3 l4)
 all_goals first
  |(show _=_
    simp only [qW,OK,oX,L4,j0,jR,w8,mP,YD,rA,aF,EY,Bool.and_eq_true,beq_iff_eq,beq_eq_false_iff_ne,ne_eq,decide_eq_true_eq,decide_eq_false_iff_not,not_and,Bool.not_eq_true',Bool.not_eq_false'] at *;simp only [gV,QD,HR,vW]
    simp_all [u8,iv]
    done)
  |(show _=_
    simp only [oX,L4,jR,EY,beq_iff_eq,decide_eq_true_eq,decide_eq_false_iff_not] at *;simp only [gV,HR,vW, *,and_self,if_true,if_false]
    done)
  |(rw [aHb] at h;cases h)
  |(rw [aKV] at h;cases h)
  |(simp [hp] at h;done)
  |(simp only [OK,j0,aF,EY,Bool.eq_false_iff,ne_eq,Bool.and_eq_true,decide_eq_true_eq] at h;omega)
  |skip
 trace_state
def TT (n a b:Int):Bool:=decide ((if b<a then b else a)≤n)&&decide (n≤(if a<b then b else a))
def aJJ:Nat × XF:=(166,gX (s3 cI cI cI fun n a b=>(true,.bool (TT n a b))))
theorem aQx:cO Go.Proofs.Tryz.prog aJJ.1 aJJ.2:=x3 cI cI cI (xl:=[]) .nil (fun _ _ _=>rfl) fun n a b _=>by
 unfold dE
 repeat' (conv=>whnf
          apply bm<;>intro h)
 all_goals (conv=>whnf)
 all_goals (simp only [aA,aC] at *;(try simp at h);(try simp);simp_all [TT] <;> omega)
def nW (p:Int × Int)(s:Sg):Bool:=TT p.1 s.1.1 s.2.1&&TT p.2 s.1.2 s.2.2&&decide (aV s.1 s.2 p=0)
def X67:Nat × XF:=(153,gX (s2 cP cS fun p s=>(wide p&&jE s,.bool (nW p s))))
theorem x67:cO Go.Proofs.Tryz.prog X67.1 X67.2:=x2 cP cS (xl:=[aJJ,X57]) (.cons aQx (.cons x57 .nil)) (fun _ _=>rfl) fun p s hp=>by
 obtain⟨px,py⟩:=p;obtain⟨⟨ax,ay⟩,⟨bx,b_y⟩⟩:=s;simp only [jE,Bool.and_eq_true] at hp;unfold dE
 repeat' (conv=>whnf
          apply bm<;>intro h)
 all_goals (conv=>whnf)
 all_goals (simp only [aA,aC,EY] at *;(try simp at h);(try simp);(try simp_all [nW]))
def X66:Nat × XF:=(127,gX (s1 cS fun s=>(true,.bool (dL s))))
theorem x66:cO Go.Proofs.Tryz.prog X66.1 X66.2:=x1 cS (xl:=[X56]) (.cons x56 .nil) (fun _=>rfl) fun s _=>by
 obtain⟨⟨ax,ay⟩,⟨bx,b_y⟩⟩:=s;unfold dE
 repeat' (conv=>whnf
          apply bm<;>intro h)
 all_goals (conv=>whnf)
 all_goals (simp [aA,aC,kD] at *;simp [dL,kD, *])
def OnR (p:Int × Int)(s:Sg):Bool:=aM p&&dL s&&nW p s
def X21:Nat × XF:=(97,gX (s2 cP cS fun p s=>(true,.bool (OnR p s))))
theorem x21:cO Go.Proofs.Tryz.prog X21.1 X21.2:=x2 cP cS (xl:=[X56,X66,X67]) (.cons x56 (.cons x66 (.cons x67 .nil))) (fun _ _=>rfl) fun p s hp=>by
 obtain⟨px,py⟩:=p;obtain⟨⟨ax,ay⟩,⟨bx,b_y⟩⟩:=s;unfold dE
 repeat' (conv=>whnf
          apply bm<;>intro h)
 all_goals (conv=>whnf)
 all_goals (simp [aA,aC] at *)
 all_goals first|(simp [OnR, *];done)|(simp_all [OnR,lB,qF];done)
theorem AU (a b:Int × Int):kN a b≤0↔a.1<b.1∨(a.1=b.1∧a.2≤b.2):=by
 unfold kN orI iO;split <;> split <;> (try split) <;> (try split) <;> omega
theorem lU (a b c:Int × Int):aV a b c=0↔aP a b c=0:=by
 unfold aV B7;split <;> (try split) <;> omega
theorem JC (p:Int × Int)(s:Sg)(h:dL s=true):onS p s=nW p s:=by
 obtain⟨px,py⟩:=p;obtain⟨⟨ax,ay⟩,⟨bx,b2⟩⟩:=s;have hne:¬ (ax=bx∧ay=b2):=by
  simp only [dL,kD,Bool.and_eq_true,Bool.not_eq_true',Bool.and_true,Bool.and_eq_false_imp,decide_eq_true_eq,decide_eq_false_iff_not] at h;intro⟨e1,e2⟩;exact h.2 e1 e2
 clear h;unfold onS nW KZ;by_cases hc:aV (ax,ay) (bx,b2) (px,py)=0
 ·have hcr:=(lU _ _ _).1 hc;simp only [aP] at hcr;rw [decide_eq_true hc,Bool.true_and,Bool.and_true,Bool.eq_iff_iff];simp only [TT,Bool.and_eq_true,decide_eq_true_eq,AU];by_cases h1:ax<bx
  ·have he:bM ((ax,ay),(bx,b2))=((ax,ay),(bx,b2)):=by
    unfold bM;rw [if_neg];have:=(AU (ax,ay) (bx,b2)).2 (.inl h1);simp only at *;omega
   rw [he];have hb:=aAq (ax:=ax) (ay:=ay) (bx:=bx) (b2:=b2) (px:=px) (py:=py) (by omega) h1;simp only at *;rw [hb];omega
  by_cases h2:bx<ax
  ·have he:bM ((ax,ay),(bx,b2))=((bx,b2),(ax,ay)):=by
    unfold bM;rw [if_pos];have:=(AU (ax,ay) (bx,b2));simp only at *;omega
   rw [he];have hsw:=W2 (ax,ay) (bx,b2) (px,py);simp only [aP] at hsw;have hb:=aAq (ax:=bx) (ay:=b2) (bx:=ax) (b2:=ay) (px:=px) (py:=py) (by omega) h2;simp only at *;rw [hb];omega
  have hx:ax=bx:=(by omega);subst hx;have hE:b2 - ay≠0:=(by omega);rw [Int.sub_self,Int.zero_mul] at hcr;have ht:px - ax=0:=aEV (D:=b2 - ay) (by omega) hE;have hpx:px=ax:=(by omega);subst hpx;by_cases h3:ay<b2
  ·have he:bM ((px,ay),(px,b2))=((px,ay),(px,b2)):=by
    unfold bM;rw [if_neg];have:=(AU (px,ay) (px,b2)).2 (.inr ⟨rfl,by omega⟩);simp only at *;omega
   rw [he];have h4:¬ (b2<ay):=(by omega);simp only [Int.lt_irrefl,if_false,h3,h4,if_true];simp
  have he:bM ((px,ay),(px,b2))=((px,b2),(px,ay)):=by
   unfold bM;rw [if_pos];have:=(AU (px,ay) (px,b2));simp only at *;omega
  rw [he];have h4:b2<ay:=(by omega);simp only [Int.lt_irrefl,if_false,h3,h4,if_true];simp
 simp [hc]
end Go.Aw
end

noncomputable section
namespace Go.Aw
open Go.RowKit
def mv (k0 q:Nat):Nat→Nat:=fun k=>match Nat.beq k k0 with|true=>q|false=>k
theorem S7 {k0 q k:Nat}(h:k≠k0):mv k0 q k=k:=by
 unfold mv;split
 ·rename_i hb;exact absurd (beq_true hb) h
 rfl
theorem aJs (k0 q:Nat):mv k0 q k0=q:=by
 unfold mv;rw [Nat.beq_refl]
theorem j5 {b n0 nx:Nat}{I:KS}{e0 e:List (Nat × Value)}{h0 h:Heap}(k0 q:Nat)(hb:b≤k0)(hbn:b≤n0)(hI:I e0 h0 n0)(he:∀ p∈e0,look e p.1=some (iM (mv k0 q) p.2)∧zR n0 p.2)
  (hh:∀ p∈h0,p.1<n0∧∃ o',look h (mv k0 q p.1)=some o'∧bZ (mv k0 q) n0 p.2 o') (hq:∀ p∈h0,p.1≠k0→p.1≠q):sT b I e h nx:=by
 refine⟨e0,h0,n0,mv k0 q,hI,fun t v hv=>he (t,v) (aY hv),fun k o hk=>hh (k,o) (aY hk),fun k k' o o' hk hk' e=>?_,fun k hk=>S7 (by omega),hbn⟩;by_cases h1:k=k0
 ·by_cases h2:k'=k0
  ·rw [h1,h2]
  subst h1;rw [aJs,S7 h2] at e;exact absurd e.symm (hq (k',o') (aY hk') h2)
 by_cases h2:k'=k0
 ·subst h2;rw [aJs,S7 h1] at e;exact absurd e (hq (k,o) (aY hk) h1)
 rw [S7 h1,S7 h2] at e;exact e
def kQ:Option Int→Value→Value
 |none,v=>v
 |some e,v=>.tuple #[v,.int .i64 e]
section
variable {α:Type}(E:El α)
def fX (s:List Value→Option (Bool × List α × Option Int)):XF:=fun args h nx K=>match s args with
 |some p=>dQ p.1 (match p.2.1 with
  |[]=>K (kQ p.2.2 (.slice none 0 0)) h nx
  |a::r=>K (kQ p.2.2 (.slice (some ⟨nx,0,none⟩) (a::r).length (a::r).length)) (bT h nx (.cells true false E.sz (flat E.fl (a::r)))) (nx+1))
 |none=>False
def Yields (l:List α)(e:Option Int):KE:=fun v h _=>match l with
 |[]=>v=kQ e (.slice none 0 0)
 |a::r=>∃ q,v=kQ e (.slice (some ⟨q,0,none⟩) (a::r).length (a::r).length)∧look h q=some (.cells true false E.sz (flat E.fl (a::r)))
theorem xJ {ρ:Nat→Nat}(e:Option Int){k n c:Nat}:iM ρ (kQ e (.slice (some ⟨k,0,none⟩) n c))=kQ e (.slice (some ⟨ρ k,0,none⟩) n c):=by
 cases e with
 |none=>rfl
 |some e=>simp [kQ,iM,tr,eM,cC,eN,kV]
theorem wG (e:Option Int):gT (kQ e (.slice none 0 0))=true:=by cases e <;> rfl
theorem P5 (e:Option Int)(n c:Nat):zR 1 (kQ e (.slice (some ⟨0,0,none⟩) n c)):=by
 cases e with
 |none=>exact⟨Nat.one_pos,fun h=>by cases h⟩
 |some e =>
  intro v hv;simp at hv;rcases hv with rfl|rfl
  ·exact⟨Nat.one_pos,fun h=>by cases h⟩
  trivial
theorem aOi {P:Program}{C:VC}{f:Nat}{s:List Value→Option (Bool × List α × Option Int)}(hC:bF P C)
  (hs:∀ args l e,s args=some (true,l,e)→eX args=true∧C f args [] 0 (Yields E l e)):cO P f (fX E s):=by
 refine (gO (S:=fun args0 h0 n0 v1 h1 m=>∃ l e,s args0=some (true,l,e)∧h0=[]∧n0=0∧(match l with
  |[]=>v1=kQ e (.slice none 0 0)∧h1=[]∧m=0
  |a::r=>v1=kQ e (.slice (some ⟨0,0,none⟩) (a::r).length (a::r).length)∧h1=[(0,.cells true false E.sz (flat E.fl (a::r)))]∧m=1)) hC ?_).mono ?_ ?_
 ·rintro args0 h0 n0 v1 h1 m ⟨l,e,e1,rfl,rfl,hl⟩;obtain⟨a1,a2⟩:=hs args0 l e e1;cases l with
  |nil =>
   obtain⟨rfl,rfl,rfl⟩:=hl;exact⟨rfl,_,a2,fun v h nx hv=>by rw [show v=_ from hv];exact lA (wG e)⟩
  |cons a r =>
   obtain⟨rfl,rfl,rfl⟩:=hl;refine⟨rfl,_,a2,fun v h nx hv=>?_⟩;obtain⟨q,rfl,hq⟩:=hv;refine⟨fun _=>q,⟨fun t u hu=>?_,fun k o hk=>?_,fun k k' o o' hk hk' _=>?_,fun k hk=>absurd hk (Nat.not_lt_zero k),Nat.zero_le _⟩⟩
   ·rw [aB] at hu;split at hu
    ·rename_i hb;injection hu with hu;subst hu;exact⟨by rw [aB,hb,xJ],P5 e _ _⟩
    exact bX hu
   ·rw [aB] at hk;split at hk
    ·rename_i hb;injection hk with hk;subst hk;exact⟨by rw [← beq_true hb];exact Nat.one_pos,_,hq,aO (aD E _)⟩
    exact bX hk
   rw [aB] at hk hk';split at hk
   ·rename_i hb1;split at hk'
    ·rename_i hb2;exact (beq_true hb1).symm.trans (beq_true hb2)
    exact bX hk'
   exact bX hk
 ·intro args h nx K hx;unfold fX at hx;split at hx
  case h_2=>exact hx.elim
  rename_i p e1;obtain⟨b,l,e⟩:=p;obtain⟨rfl,hx⟩:=aE.1 hx;obtain⟨a1,a2⟩:=hs args l e e1;cases l with
  |nil =>
   refine⟨args,[],0,_,[],0,⟨[],e,e1,rfl,rfl,rfl,rfl,rfl⟩,aLB fun u hu=>cD a1 hu,?_⟩;simp only [pT,uG,oD,lY,gE (wG e),Nat.add_zero];exact hx
  |cons a r =>
   refine⟨args,[],0,_,[(0,.cells true false E.sz (flat E.fl (a::r)))],1,⟨a::r,e,e1,rfl,rfl,rfl,rfl,rfl⟩,aLB fun u hu=>cD a1 hu,?_⟩;have hm:(flat E.fl (a::r)).map (bY (fun k=>nx+k))=flat E.fl (a::r):=bJ (aD E _);simp only [pT,uG,XO,Bool.and_self,oD,shO,hm,xJ,Nat.add_zero];exact hx
 intro args h nx K hx;unfold fX at hx;split at hx
 case h_2=>exact hx.elim
 rename_i p e1;obtain⟨hb,hx⟩:=aE.1 hx;cases hl:p.2.1 with
 |nil =>
  rw [hl] at hx;exact⟨_,_,_,hx,fun K' hk=>by unfold fX;rw [e1];simp only [hl];exact aI hb hk⟩
 |cons a r =>
  rw [hl] at hx;exact⟨_,_,_,hx,fun K' hk=>by unfold fX;rw [e1];simp only [hl];exact aI hb hk⟩
end
end Go.Aw
end

namespace Go.Aw
theorem par {ex ey ux uy wx wy:Int}(h:ex*uy=ey*ux):ex*(wx*uy - wy*ux)=ux*(wx*ey - wy*ex):=by
 have h1:ex*(wx*uy)=wx*(ey*ux):=(by rw [← h,← Int.mul_assoc,Int.mul_comm ex wx,Int.mul_assoc]);rw [Int.mul_sub,Int.mul_sub,h1];congr 1
 ·rw [← Int.mul_assoc,Int.mul_comm (wx*ey),← Int.mul_assoc,Int.mul_comm ux]
 rw [← Int.mul_assoc,Int.mul_comm ex,Int.mul_assoc,Int.mul_comm ex,← Int.mul_assoc,Int.mul_comm wy,Int.mul_assoc]
theorem aNK {ex ux q r:Int}(he:0<ex)(h:ex*q=ux*r)(hne:¬ (q=0∧r - q=0)):(0≤ux∧ux≤ex)↔(0≤q*(r - q)):=by
 have hr:r≠0:=by
  intro hr;subst hr;rw [Int.mul_zero] at h;have:q=0:=by
   rcases Int.mul_eq_zero.1 h with h|h
   ·omega
   exact h
  exact hne ⟨this,by omega⟩
 have e2:ex*(r - q)=(ex - ux)*r:=(by rw [Int.mul_sub,Int.sub_mul,h]);have key:(ex*ex)*(q*(r - q))=(ux*(ex - ux))*(r*r):=by
  calc (ex*ex)*(q*(r - q))=(ex*q)*(ex*(r - q)):=by rw [Int.mul_assoc,Int.mul_assoc,← Int.mul_assoc ex q,Int.mul_comm ex q,Int.mul_assoc q ex]
   _=(ux*r)*((ex - ux)*r):=by rw [h,e2]
   _=(ux*(ex - ux))*(r*r):=by rw [Int.mul_assoc,Int.mul_assoc,← Int.mul_assoc r,Int.mul_comm r (ex - ux),Int.mul_assoc (ex - ux)]
 have hrr:0<r*r:=by
  rcases Int.lt_or_gt_of_ne hr with h|h
  ·exact Int.mul_pos_of_neg_of_neg h h
  exact Int.mul_pos h h
 have hee:0<ex*ex:=Int.mul_pos he he;constructor
 ·intro⟨h1,h2⟩;have h3:0≤(ux*(ex - ux))*(r*r):=Int.mul_nonneg (Int.mul_nonneg h1 (by omega)) (by omega);rw [← key] at h3;by_cases hq:0≤q*(r - q)
  ·exact hq
  have:(ex*ex)*(q*(r - q))<0:=Int.mul_neg_of_pos_of_neg hee (by omega);omega
 intro hq;have h3:0≤(ex*ex)*(q*(r - q)):=Int.mul_nonneg (by omega) hq;rw [key] at h3;have h4:0≤ux*(ex - ux):=by
  by_cases h4:0≤ux*(ex - ux)
  ·exact h4
  have:(ux*(ex - ux))*(r*r)<0:=Int.mul_neg_of_neg_of_pos (by omega) hrr;omega
 constructor
 ·by_cases h5:0≤ux
  ·exact h5
  have:ux*(ex - ux)<0:=Int.mul_neg_of_neg_of_pos (by omega) (by omega);omega
 by_cases h5:ux≤ex
 ·exact h5
 have:ux*(ex - ux)<0:=Int.mul_neg_of_pos_of_neg (by omega) (by omega);omega
end Go.Aw

namespace Go.Aw
theorem OE {a b:Int}(ha:0<a)(h:0≤a*b):0≤b:=by
 by_cases hb:0≤b
 ·exact hb
 have:a*b<0:=Int.mul_neg_of_pos_of_neg ha (by omega);omega
theorem aPH {ex ey ux uy:Int}(he:0<ex)(h:ex*uy=ey*ux)(h0:0≤ux)(h1:ux≤ex):(0≤ey→0≤uy∧uy≤ey)∧(ey≤0→ey≤uy∧uy≤0):=by
 have e2:ex*(ey - uy)=ey*(ex - ux):=by
  rw [Int.mul_sub,Int.mul_sub,h,Int.mul_comm ex ey]
 constructor
 ·intro hy;constructor
  ·exact OE he (by rw [h];exact Int.mul_nonneg hy h0)
  have:=OE he (show 0≤ex*(ey - uy) by rw [e2];exact Int.mul_nonneg hy (by omega));omega
 intro hy;constructor
 ·have:0≤ex*(uy - ey):=by
   have:ex*(uy - ey)=(-ey)*(ex - ux):=by
    rw [Int.neg_mul,← e2,← Int.mul_neg];congr 1;omega
   rw [this];exact Int.mul_nonneg (by omega) (by omega)
  have:=OE he this;omega
 have:0≤ex*(-uy):=by
  rw [Int.mul_neg,h,← Int.neg_mul];exact Int.mul_nonneg (by omega) h0
 have:=OE he this;omega
def PN (e u:Int):Prop:=(if 0<e then 0 else e)≤u∧u≤(if e<0 then 0 else e)
theorem FO {e u:Int}:PN (-e) (-u)↔PN e u:=by
 unfold PN;split <;> split <;> split <;> split <;> omega
theorem aG2 {e u:Int}(h:0<e):PN e u↔(0≤u∧u≤e):=by
 unfold PN;split <;> split <;> omega
theorem BS {ex ey ux uy q r:Int}(he:0<ex)(h:ex*uy=ey*ux)(h1:ex*q=ux*r)(hne:¬ (q=0∧r - q=0)):(PN ex ux∧PN ey uy)↔0≤q*(r - q):=by
 rw [← aNK he h1 hne,aG2 he];constructor
 ·exact fun h=>h.1
 intro h2;refine⟨h2,?_⟩;obtain⟨k1,k2⟩:=aPH he h h2.1 h2.2;unfold PN;by_cases hy:0≤ey
 ·have:=k1 hy;split <;> split <;> omega
 have:=k2 (by omega);split <;> split <;> omega
theorem aHc {ex ey ux uy q r:Int}(he:¬ (ex=0∧ey=0))(h:ex*uy=ey*ux)(h1:ex*q=ux*r)(h2:ey*q=uy*r)(hne:¬ (q=0∧r - q=0)):(PN ex ux∧PN ey uy)↔0≤q*(r - q):=by
 by_cases a1:0<ex
 ·exact BS a1 h h1 hne
 by_cases a2:ex<0
 ·rw [← FO (e:=ex),← FO (e:=ey)];exact BS (by omega) (by rw [Int.neg_mul_neg,Int.neg_mul_neg,h]) (by rw [Int.neg_mul,Int.neg_mul,h1]) hne
 by_cases a3:0<ey
 ·rw [And.comm];exact BS a3 h.symm h2 hne
 rw [← FO (e:=ex),← FO (e:=ey),And.comm];exact BS (by omega) (by rw [Int.neg_mul_neg,Int.neg_mul_neg,h]) (by rw [Int.neg_mul,Int.neg_mul,h2]) hne
theorem once {ex ey wx wy vx vy:Int}(hd:ex*wy - ey*wx≠0)(h1:ex*vy=ey*vx)(h2:wx*vy=wy*vx):vx=0∧vy=0:=by
 constructor
 ·have:(ex*wy - ey*wx)*vx=0:=by
   rw [Int.sub_mul,Int.mul_assoc,← h2,Int.mul_right_comm ey,← h1,Int.mul_assoc,Int.mul_comm vy,Int.sub_self]
  rcases Int.mul_eq_zero.1 this with h|h
  ·exact absurd h hd
  exact h
 have:(ex*wy - ey*wx)*vy=0:=by
  rw [Int.sub_mul,Int.mul_assoc ey,h2,Int.mul_right_comm ex,h1,← Int.mul_assoc,Int.mul_right_comm ey,Int.sub_self]
 rcases Int.mul_eq_zero.1 this with h|h
 ·exact absurd h hd
 exact h
theorem para {ex ey wx wy vx vy:Int}(hw:¬ (wx=0∧wy=0))(h1:wx*ey=wy*ex)(h2:wx*vy=wy*vx):ex*vy=ey*vx:=by
 have k1:wx*(ex*vy - ey*vx)=0:=by
  rw [Int.mul_sub,← Int.mul_assoc,Int.mul_right_comm,h2,← Int.mul_assoc,h1,Int.mul_right_comm,Int.sub_self]
 have k2:wy*(ex*vy - ey*vx)=0:=by
  rw [Int.mul_sub,← Int.mul_assoc,← h1,Int.mul_left_comm wy,← h2,Int.mul_left_comm ey,Int.mul_assoc,Int.sub_self]
 by_cases h:wx=0
 ·rcases Int.mul_eq_zero.1 k2 with h'|h'
  ·exact absurd ⟨h,h'⟩ hw
  omega
 ·rcases Int.mul_eq_zero.1 k1 with h'|h'
  ·exact absurd h' h
  omega
end Go.Aw

namespace Go.Aw
def nR (p:Int × Int):List (Int × Int)→Bool
 |[]=>false
 |q::r=>kD q p || nR p r
def m9 (s t:Sg)(out:List (Int × Int))(p:Int × Int):List (Int × Int):=if nW p s=true∧nW p t=true∧nR p out=false then out++[p] else out
def rU (s t:Sg):List (Int × Int):=m9 s t (m9 s t (m9 s t (m9 s t [] s.1) s.2) t.1) t.2
theorem jX (a b:Int × Int):kD a b=true↔a=b:=by
 obtain⟨a1,a2⟩:=a;obtain⟨b1,b2⟩:=b;simp [kD]
theorem aAc (n a b:Int):TT n a b=true↔PN (b - a) (n - a):=by
 simp only [TT,PN,Bool.and_eq_true,decide_eq_true_eq];split <;> split <;> (try split) <;> (try split) <;> omega
theorem aFN {ax ay bx b2 px py wx wy c d:Int}(hne:¬ (bx - ax=0∧b2 - ay=0))(h0:(bx - ax)*(py - ay) - (b2 - ay)*(px - ax)=0)
  (hc:c=wx*(ay - py) - wy*(ax - px)) (hd:d=wx*(b2 - py) - wy*(bx - px)) (hn:¬ (c=0∧d=0)):(TT px ax bx=true∧TT py ay b2=true)↔c*d≤0:=by
 have h:(bx - ax)*(py - ay)=(b2 - ay)*(px - ax):=(by omega);have p1:=par (wx:=wx) (wy:=wy) h;have p2:=par (wx:=wy) (wy:=wx) h.symm;have q1:wx*(py - ay) - wy*(px - ax) = -c:=by
  subst hc;simp only [Int.mul_sub];omega
 have q2:wy*(px - ax) - wx*(py - ay)=c:=(by omega);have r1:wx*(b2 - ay) - wy*(bx - ax)=d - c:=by
  subst hc hd;simp only [Int.mul_sub];omega
 have r2:wy*(bx - ax) - wx*(b2 - ay) = -(d - c):=(by omega);rw [q1,r1] at p1;rw [q2,r2] at p2;have p3:(b2 - ay)*(-c)=(py - ay)*(d - c):=by
  rw [Int.mul_neg,p2,Int.mul_neg,Int.neg_neg]
 rw [aAc,aAc,aHc hne h p1 p3 (by omega)];have:d - c - -c=d:=(by omega);rw [this,Int.neg_mul];omega
theorem aHl (a b:Int):B7 a*B7 b≤0↔a*b≤0:=by
 unfold B7
 by_cases a1:a<0 <;> by_cases a2:0<a <;> by_cases b1:b<0 <;> by_cases b2:0<b <;> simp only [a1,a2,b1,b2,if_true,if_false] <;>
  first
  |(exfalso;omega)
  |(have:=Int.mul_pos_of_neg_of_neg a1 b1;omega)
  |(have:=Int.mul_neg_of_neg_of_pos a1 b2;omega)
  |(have:=Int.mul_neg_of_pos_of_neg a2 b1;omega)
  |(have:=Int.mul_pos a2 b2;omega)
  |(have:a=0:=by omega
    subst this;simp)
  |(have:b=0:=by omega
    subst this;simp)
theorem oZ (a b p q:Int × Int)(h:q=a∨q=b):aP a b p=(b.1 - a.1)*(p.2 - q.2) - (b.2 - a.2)*(p.1 - q.1):=by
 rcases h with rfl|rfl
 ·rfl
 have e1:p.2 - a.2=(p.2 - q.2)+(q.2 - a.2):=(by omega);have e2:p.1 - a.1=(p.1 - q.1)+(q.1 - a.1):=(by omega);have e3:=Int.mul_comm (q.1 - a.1) (q.2 - a.2);rw [aP,e1,e2,Int.mul_add,Int.mul_add];omega
theorem AY (s t:Sg)(p:Int × Int)(hp:p=t.1∨p=t.2)(hs:s.1≠s.2)(h0:aV s.1 s.2 p=0)(hn:¬ (aV t.1 t.2 s.1=0∧aV t.1 t.2 s.2=0)) :
  nW p s=decide (aV t.1 t.2 s.1*aV t.1 t.2 s.2≤0):=by
 have k:=aFN (wx:=t.2.1 - t.1.1) (wy:=t.2.2 - t.1.2) (px:=p.1) (py:=p.2) (ax:=s.1.1) (ay:=s.1.2) (bx:=s.2.1) (b2:=s.2.2) (by
  intro h;apply hs;exact Prod.ext (by omega) (by omega)) ((lU _ _ _).1 h0) (oZ t.1 t.2 s.1 p hp) (oZ t.1 t.2 s.2 p hp) (by
  rw [lU,lU] at hn;exact hn)
 rw [Bool.eq_iff_iff,decide_eq_true_eq];unfold aV;rw [aHl,← k,nW,h0];simp
theorem FI (s:Sg)(p:Int × Int)(h0:aV s.1 s.2 p≠0):nW p s=false:=by
 unfold nW;simp [h0]
theorem pZ (s:Sg)(p:Int × Int)(hp:p=s.1∨p=s.2):nW p s=true:=by
 have h0:aV s.1 s.2 p=0:=by
  rw [lU,aP];rcases hp with rfl|rfl
  ·simp
  rw [Int.mul_comm];omega
 have hb:∀ a b:Int,TT a a b=true∧TT b a b=true:=by
  intro a b;simp only [TT,Bool.and_eq_true,decide_eq_true_eq];split <;> split <;> omega
 unfold nW;rw [h0];rcases hp with rfl|rfl
 ·simp [(hb _ _).1]
 simp [(hb _ _).2]
theorem IE (s t:Sg)(p:Int × Int)(hp:p=t.1∨p=t.2)(ht:t.1≠t.2)(h1:aV t.1 t.2 s.1=0)(h2:aV t.1 t.2 s.2=0):aV s.1 s.2 p=0:=by
 rw [lU,oZ t.1 t.2 _ p hp] at h1 h2;have hw:¬ (t.2.1 - t.1.1=0∧t.2.2 - t.1.2=0):=by
  intro h;apply ht;exact Prod.ext (by omega) (by omega)
 have e1:(t.2.1 - t.1.1)*(s.2.2 - s.1.2)=(t.2.2 - t.1.2)*(s.2.1 - s.1.1):=by
  rw [show s.2.2 - s.1.2=(s.2.2 - p.2) - (s.1.2 - p.2) by omega,show s.2.1 - s.1.1=(s.2.1 - p.1) - (s.1.1 - p.1) by omega,Int.mul_sub,Int.mul_sub (t.2.2 - t.1.2)];omega
 have e2:(t.2.1 - t.1.1)*(p.2 - s.1.2)=(t.2.2 - t.1.2)*(p.1 - s.1.1):=by
  rw [show p.2 - s.1.2 = -(s.1.2 - p.2) by omega,show p.1 - s.1.1 = -(s.1.1 - p.1) by omega,Int.mul_neg,Int.mul_neg];omega
 have:=para hw e1 e2;rw [lU,aP];omega
theorem DA (s t:Sg)(ht:t.1≠t.2)(h:aV t.1 t.2 s.1=0∧aV t.1 t.2 s.2=0):aV s.1 s.2 t.1=0∧aV s.1 s.2 t.2=0 :=
 ⟨IE s t _ (.inl rfl) ht h.1 h.2,IE s t _ (.inr rfl) ht h.1 h.2⟩
theorem xD (s t:Sg)(p q:Int × Int)(hp:p=s.1∨p=s.2)(hq:q=t.1∨q=t.2)(h1:aV t.1 t.2 p=0)(h2:aV s.1 s.2 q=0)(hn:¬ (aV s.1 s.2 t.1=0∧aV s.1 s.2 t.2=0)):p=q:=by
 rw [lU,oZ t.1 t.2 _ q hq] at h1;have h2':=h2;rw [lU,oZ s.1 s.2 _ p hp] at h2;have hd:(s.2.1 - s.1.1)*(t.2.2 - t.1.2) - (s.2.2 - s.1.2)*(t.2.1 - t.1.1)≠0:=by
  intro hd;apply hn;have e0:aP s.1 s.2 t.2=aP s.1 s.2 t.1:=by
   rw [aP,aP,show t.2.2 - s.1.2=(t.2.2 - t.1.2)+(t.1.2 - s.1.2) by omega,show t.2.1 - s.1.1=(t.2.1 - t.1.1)+(t.1.1 - s.1.1) by omega,Int.mul_add,Int.mul_add];omega
  rw [lU] at h2';rw [lU,lU,e0];rcases hq with rfl|rfl
  ·exact⟨h2',h2'⟩
  rw [← e0];exact⟨h2',h2'⟩
 have e2:(t.2.1 - t.1.1)*(q.2 - p.2)=(t.2.2 - t.1.2)*(q.1 - p.1):=by
  rw [show q.2 - p.2 = -(p.2 - q.2) by omega,show q.1 - p.1 = -(p.1 - q.1) by omega,Int.mul_neg,Int.mul_neg];omega
 have:=once hd (by omega) e2;exact Prod.ext (by omega) (by omega)
def qC (s t:Sg):Int:=match rU s t with
 |[]=>if aV s.1 s.2 t.1*aV s.1 s.2 t.2<0∧aV t.1 t.2 s.1*aV t.1 t.2 s.2<0 then 3 else 0
 |[p]=>if (kD p s.1=true∨kD p s.2=true)∧(kD p t.1=true∨kD p t.2=true) then 1 else 2
 |_::_::_=>4
theorem jO (a b:Int × Int):kD a b=false↔a≠b:=by
 rw [ne_eq,← jX];simp
theorem aEn (s t:Sg)(hs:s.1≠s.2)(ht:t.1≠t.2)(hn:¬ (aV s.1 s.2 t.1=0∧aV s.1 s.2 t.2=0)):gV s t=qC s t:=by
 have hn':¬ (aV t.1 t.2 s.1=0∧aV t.1 t.2 s.2=0):=fun h=>hn (DA s t ht h);have b3:=fun h0=>AY s t t.1 (.inl rfl) hs h0 hn';have b4:=fun h0=>AY s t t.2 (.inr rfl) hs h0 hn';have b1:=fun h0=>AY t s s.1 (.inl rfl) ht h0 hn;have b2:=fun h0=>AY t s s.2 (.inr rfl) ht h0 hn;have f3:=FI s t.1;have f4:=FI s t.2;have f1:=FI t s.1;have f2:=FI t s.2;have o13:=xD s t s.1 t.1 (.inl rfl) (.inl rfl);have o14:=xD s t s.1 t.2 (.inl rfl) (.inr rfl);have o23:=xD s t s.2 t.1 (.inr rfl) (.inl rfl);have o24:=xD s t s.2 t.2 (.inr rfl) (.inr rfl);have g1:=pZ s s.1 (.inl rfl);have g2:=pZ s s.2 (.inr rfl);have g3:=pZ t t.1 (.inl rfl);have g4:=pZ t t.2 (.inr rfl);have z1:aV s.1 s.2 s.1=0:=(by rw [lU,aP];simp);have z2:aV s.1 s.2 s.2=0:=(by rw [lU,aP,Int.mul_comm];omega);have z3:aV t.1 t.2 t.1=0:=(by rw [lU,aP];simp);have z4:aV t.1 t.2 t.2=0:=(by rw [lU,aP,Int.mul_comm];omega);have rf:∀ p,kD p p=true:=fun p=>(jX p p).2 rfl;have n1:aV s.1 s.2 t.1≠0→kD s.1 t.1=false∧kD s.2 t.1=false∧kD t.1 s.1=false∧kD t.1 s.2=false:=fun h=>by
  rw [jO,jO,jO,jO];exact⟨fun e=>h (e▸z1),fun e=>h (by rw [← e];exact z2),fun e=>h (e▸z1),fun e=>h (by rw [e];exact z2)⟩
 have n2:aV s.1 s.2 t.2≠0→kD s.1 t.2=false∧kD s.2 t.2=false∧kD t.2 s.1=false∧kD t.2 s.2=false:=fun h=>by
  rw [jO,jO,jO,jO];exact⟨fun e=>h (e▸z1),fun e=>h (by rw [← e];exact z2),fun e=>h (e▸z1),fun e=>h (by rw [e];exact z2)⟩
 have n3:aV t.1 t.2 s.1≠0→kD s.1 t.1=false∧kD s.1 t.2=false∧kD t.1 s.1=false∧kD t.2 s.1=false:=fun h=>by
  rw [jO,jO,jO,jO];exact⟨fun e=>h (by rw [e];exact z3),fun e=>h (by rw [e];exact z4),fun e=>h (by rw [← e];exact z3),fun e=>h (by rw [← e];exact z4)⟩
 have n4:aV t.1 t.2 s.2≠0→kD s.2 t.1=false∧kD s.2 t.2=false∧kD t.1 s.2=false∧kD t.2 s.2=false:=fun h=>by
  rw [jO,jO,jO,jO];exact⟨fun e=>h (by rw [e];exact z3),fun e=>h (by rw [e];exact z4),fun e=>h (by rw [← e];exact z3),fun e=>h (by rw [← e];exact z4)⟩
 have o13':aV t.1 t.2 s.1=0→aV s.1 s.2 t.1=0→kD s.1 t.1=true∧kD t.1 s.1=true:=fun h h'=>by
  have:=o13 h h' hn;rw [jX,jX];exact⟨this,this.symm⟩
 have o14':aV t.1 t.2 s.1=0→aV s.1 s.2 t.2=0→kD s.1 t.2=true∧kD t.2 s.1=true:=fun h h'=>by
  have:=o14 h h' hn;rw [jX,jX];exact⟨this,this.symm⟩
 have o23':aV t.1 t.2 s.2=0→aV s.1 s.2 t.1=0→kD s.2 t.1=true∧kD t.1 s.2=true:=fun h h'=>by
  have:=o23 h h' hn;rw [jX,jX];exact⟨this,this.symm⟩
 have o24':aV t.1 t.2 s.2=0→aV s.1 s.2 t.2=0→kD s.2 t.2=true∧kD t.2 s.2=true:=fun h h'=>by
  have:=o24 h h' hn;rw [jX,jX];exact⟨this,this.symm⟩
 clear o13 o14 o23 o24 z1 z2 z3 z4;unfold gV;rw [if_neg hn];generalize hA:aV s.1 s.2 t.1=A at *;generalize hB:aV s.1 s.2 t.2=B at *;generalize hC:aV t.1 t.2 s.1=C at *;generalize hD:aV t.1 t.2 s.2=D at *;unfold qC rU;rw [hA,hB,hC,hD];by_cases h:0<A*B∨0<C*D
 ·have p3:nW t.1 s=false:=by
   by_cases h0:A=0
   ·rw [b3 h0,decide_eq_false_iff_not];subst h0;simp at h;omega
   exact f3 h0
  have p4:nW t.2 s=false:=by
   by_cases h0:B=0
   ·rw [b4 h0,decide_eq_false_iff_not];subst h0;simp at h;omega
   exact f4 h0
  have p1:nW s.1 t=false:=by
   by_cases h0:C=0
   ·rw [b1 h0,decide_eq_false_iff_not];subst h0;simp at h;omega
   exact f1 h0
  have p2:nW s.2 t=false:=by
   by_cases h0:D=0
   ·rw [b2 h0,decide_eq_false_iff_not];subst h0;simp at h;omega
   exact f2 h0
  unfold QD;rw [if_pos h];simp only [m9,p1,p2,p3,p4,g1,g2,g3,g4,Bool.false_eq_true,false_and,and_false,if_false];rw [if_neg];omega
 have hAB:A*B≤0:=(by omega);have hCD:C*D≤0:=(by omega);simp only [hAB,hCD,decide_true] at b1 b2 b3 b4;unfold QD;rw [if_neg h];by_cases a0:A=0 <;> by_cases b0:B=0 <;> by_cases c0:C=0 <;> by_cases d0:D=0 <;> simp only [a0,b0,c0,d0,not_true,not_false_eq_true,true_implies,false_implies,ne_eq,and_self,and_true,true_and,and_false,false_and] at hn hn' b1 b2 b3 b4 f1 f2 f3 f4 n1 n2 n3 n4 o13' o14' o23' o24'
 all_goals (simp only [m9,nR,rf,g1,g2,g3,g4, *,or_self,or_true,true_or,and_self,if_true,Bool.false_eq_true,Bool.or_false,Bool.or_self,Bool.or_true,and_true,true_and,false_and,and_false,if_false,List.nil_append,or_false,false_or,Bool.true_eq_false])
 all_goals (try (simp only [rf, *,or_self,or_true,true_or,and_self,if_true,Bool.false_eq_true,and_true,true_and,false_and,and_false,if_false,or_false,false_or];done))
 have nAB:A*B≠0:=Int.mul_ne_zero a0 b0;have nCD:C*D≠0:=Int.mul_ne_zero c0 d0;rw [if_pos ⟨by omega,by omega⟩]
def key (p:Int × Int):Int:=p.1*100000+p.2
theorem jF {a b:Int × Int}(ha:aM a=true)(hb:aM b=true):kN a b=iO (key a) (key b):=by
 simp only [aM,Bool.and_eq_true,decide_eq_true_eq] at ha hb;obtain⟨a1,a2⟩:=a;obtain⟨b1,b2⟩:=b;simp only at ha hb;unfold kN orI iO key;simp only;by_cases h1:a1<b1
 ·rw [if_pos h1,if_pos (show a1*100000+a2<b1*100000+b2 by omega)];rfl
 by_cases h2:b1<a1
 ·rw [if_neg h1,if_pos h2,if_neg (show ¬ (a1*100000+a2<b1*100000+b2) by omega),if_pos (show b1*100000+b2<a1*100000+a2 by omega)];rfl
 rw [if_neg h1,if_neg h2,if_pos rfl];have:a1=b1:=(by omega);subst this;by_cases h3:a2<b2
 ·rw [if_pos h3,if_pos (by omega)]
 rw [if_neg h3,if_neg (show ¬ (a1*100000+a2<a1*100000+b2) by omega)];by_cases h4:b2<a2
 ·rw [if_pos h4,if_pos (by omega)]
 rw [if_neg h4,if_neg (by omega)]
theorem XK {a b:Int × Int}(ha:aM a=true)(hb:aM b=true):kD a b=true↔key a=key b:=by
 simp only [aM,Bool.and_eq_true,decide_eq_true_eq] at ha hb;simp only [kD,Bool.and_eq_true,decide_eq_true_eq,key,and_true];omega
theorem HG {a b:Int × Int}(ha:aM a=true)(hb:aM b=true):kD a b=false↔key a≠key b:=by
 rw [← Bool.not_eq_true,XK ha hb]
theorem aKZ (a b:Int):iO a b≤0↔a≤b:=by unfold iO;split <;> (try split) <;> omega
theorem WT (a b:Int):iO a b<0↔a<b:=by unfold iO;split <;> (try split) <;> omega
theorem VZ (a b:Int):0<iO a b↔b<a:=by unfold iO;split <;> (try split) <;> omega
theorem AQ (a b:Int):aI4 (iO a b)=if a<b then 4 else if a=b then 1 else 0:=by
 unfold aI4 iO;split
 ·rfl
 split
 ·rw [if_neg (by omega),if_neg (by omega),if_neg (by omega)]
 rw [if_neg (by omega),if_pos rfl,if_pos (by omega)]
theorem oO {s:Sg}(h:dL s=true):aM s.1=true∧aM s.2=true∧s.1≠s.2:=by
 simp only [dL,Bool.and_eq_true,Bool.not_eq_true'] at h;exact⟨h.1.1,h.1.2,(jO _ _).1 h.2⟩
def kF (p1 p2 p3 p4 e13 e14 e23 e24:Bool):Int :=
 match p1,p2,p3&&!(p1&&e13)&&!(p2&&e23),p4&&!(p1&&e14)&&!(p2&&e24) with
 |false,false,false,false=>0
 |true,false,false,false=>if e13 || e14 then 1 else 2
 |false,true,false,false=>if e23 || e24 then 1 else 2
 |false,false,true,false=>if e13 || e23 then 1 else 2
 |false,false,false,true=>if e14 || e24 then 1 else 2
 |_,_,_,_=>4
set_option maxHeartbeats 2000000 in
theorem aMZ {k1 k2 k3 k4 a1 a2 b1 b2:Int}(ha:(k1<k2∧a1=k1∧a2=k2)∨(k2<k1∧a1=k2∧a2=k1))(hb:(k3<k4∧b1=k3∧b2=k4)∨(k4<k3∧b1=k4∧b2=k3)) :
  (if (if a1<b1 then b1 else a1)<(if b2<a2 then b2 else a2) then (4:Int) else if (if a1<b1 then b1 else a1)=(if b2<a2 then b2 else a2) then 1 else 0)
   = kF (decide (b1≤k1∧k1≤b2)) (decide (b1≤k2∧k2≤b2)) (decide (a1≤k3∧k3≤a2)) (decide (a1≤k4∧k4≤a2)) (decide (k1=k3)) (decide (k1=k4)) (decide (k2=k3)) (decide (k2=k4)):=by
 rcases ha with ⟨a,xa,ya⟩|⟨a,xa,ya⟩ <;> rcases hb with ⟨b,xb,yb⟩|⟨b,xb,yb⟩ <;>
 by_cases q1:b1≤k1∧k1≤b2 <;> by_cases q2:b1≤k2∧k2≤b2 <;> by_cases q3:a1≤k3∧k3≤a2 <;> by_cases q4:a1≤k4∧k4≤a2 <;> (try (exfalso;omega)) <;>
  by_cases u1:k1=k3 <;> (try (exfalso;omega)) <;> by_cases u2:k1=k4 <;> (try (exfalso;omega)) <;> by_cases u3:k2=k3 <;> (try (exfalso;omega)) <;> by_cases u4:k2=k4 <;> (try (exfalso;omega)) <;>
  (first|rw [decide_eq_true q1]|rw [decide_eq_false q1]) <;> (first|rw [decide_eq_true q2]|rw [decide_eq_false q2]) <;> (first|rw [decide_eq_true q3]|rw [decide_eq_false q3]) <;> (first|rw [decide_eq_true q4]|rw [decide_eq_false q4]) <;>
  (first|rw [decide_eq_true u1]|rw [decide_eq_false u1]) <;> (first|rw [decide_eq_true u2]|rw [decide_eq_false u2]) <;> (first|rw [decide_eq_true u3]|rw [decide_eq_false u3]) <;> (first|rw [decide_eq_true u4]|rw [decide_eq_false u4]) <;>
  simp only [kF,Bool.and_true,Bool.not_true,Bool.and_false,Bool.not_false,Bool.or_true,Bool.or_false,Bool.true_or,if_true,Bool.false_eq_true,if_false,Bool.true_and,Bool.false_and] <;> split <;> split <;> (try split) <;> (try split) <;> omega
theorem rF (a b:Int × Int):kD a b=kD b a:=by
 rw [Bool.eq_iff_iff,jX,jX];exact eq_comm
set_option maxHeartbeats 2000000 in
theorem aCV (s t:Sg)(h:aV s.1 s.2 t.1=0)(n12:kD s.1 s.2=false)(n34:kD t.1 t.2=false) :
  qC s t=kF (nW s.1 t) (nW s.2 t) (nW t.1 s) (nW t.2 s) (kD s.1 t.1) (kD s.1 t.2) (kD s.2 t.1) (kD s.2 t.2):=by
 have g1:=pZ s s.1 (.inl rfl);have g2:=pZ s s.2 (.inr rfl);have g3:=pZ t t.1 (.inl rfl);have g4:=pZ t t.2 (.inr rfl);have rf:∀ p,kD p p=true:=fun p=>(jX p p).2 rfl;have n21:kD s.2 s.1=false:=(by rw [rF];exact n12);have n43:kD t.2 t.1=false:=(by rw [rF];exact n34);have c1:=rF t.1 s.1;have c2:=rF t.1 s.2;have c3:=rF t.2 s.1;have c4:=rF t.2 s.2;unfold qC rU;simp only [h,m9,g1,g2,g3,g4,true_and];generalize nW s.1 t=p1;generalize nW s.2 t=p2;generalize nW t.1 s=p3;generalize nW t.2 s=p4;generalize he13:kD s.1 t.1=e13 at *;generalize he14:kD s.1 t.2=e14 at *;generalize he23:kD s.2 t.1=e23 at *;generalize he24:kD s.2 t.2=e24 at *;clear g1 g2 g3 g4 h;generalize s.1=P1 at *;generalize s.2=P2 at *;generalize t.1=P3 at *;generalize t.2=P4 at *;cases p1 <;> cases p2 <;> cases p3 <;> cases p4 <;> simp only [nR,rf,n12,n21,n34,n43,he13,he14,he23,he24,c1,c2,c3,c4,kF,Bool.false_eq_true,false_and,and_false,and_self,and_true,true_and,if_true,if_false,List.nil_append,Bool.or_false,Bool.false_or,Bool.true_and,Bool.false_and,or_true,true_or,or_false,false_or,Int.zero_mul,Int.lt_irrefl,Bool.not_false,Bool.or_true,Bool.true_or]
 all_goals (cases e13 <;> cases e14 <;> cases e23 <;> cases e24 <;> simp [nR,rf,n12,n21,n34,n43,he13,he14,he23,he24,c1,c2,c3,c4,kF])
theorem aEb (s t:Sg)(hs:dL s=true)(ht:dL t=true)(h:aV s.1 s.2 t.1=0∧aV s.1 s.2 t.2=0):gV s t=qC s t:=by
 obtain⟨r1,r2,ns⟩:=oO hs;obtain⟨r3,r4,nt⟩:=oO ht;have h':=DA t s ns h;have n12:key s.1≠key s.2:=(HG r1 r2).1 ((jO _ _).2 ns);have n34:key t.1≠key t.2:=(HG r3 r4).1 ((jO _ _).2 nt);have p3:nW t.1 s=KZ t.1 s:=(by rw [← JC _ _ hs,onS,h.1];simp);have p4:nW t.2 s=KZ t.2 s:=(by rw [← JC _ _ hs,onS,h.2];simp);have p1:nW s.1 t=KZ s.1 t:=(by rw [← JC _ _ ht,onS,h'.1];simp);have p2:nW s.2 t=KZ s.2 t:=(by rw [← JC _ _ ht,onS,h'.2];simp);have es:∃ a,aM (bM s).1=true∧aM (bM s).2=true∧((key s.1<key s.2∧key (bM s).1=key s.1∧key (bM s).2=key s.2)∨(key s.2<key s.1∧key (bM s).1=key s.2∧key (bM s).2=key s.1))∧a=true:=by
  refine⟨true,?_⟩;unfold bM;simp only [jF r1 r2,VZ];by_cases hk:key s.2<key s.1
  ·rw [if_pos hk];exact⟨r2,r1,.inr ⟨hk,rfl,rfl⟩,trivial⟩
  rw [if_neg hk];exact⟨r1,r2,.inl ⟨by omega,rfl,rfl⟩,trivial⟩
 have et:∃ a,aM (bM t).1=true∧aM (bM t).2=true∧((key t.1<key t.2∧key (bM t).1=key t.1∧key (bM t).2=key t.2)∨(key t.2<key t.1∧key (bM t).1=key t.2∧key (bM t).2=key t.1))∧a=true:=by
  refine⟨true,?_⟩;unfold bM;simp only [jF r3 r4,VZ];by_cases hk:key t.2<key t.1
  ·rw [if_pos hk];exact⟨r4,r3,.inr ⟨hk,rfl,rfl⟩,trivial⟩
  rw [if_neg hk];exact⟨r3,r4,.inl ⟨by omega,rfl,rfl⟩,trivial⟩
 obtain⟨_,ra1,ra2,ha,_⟩:=es;obtain⟨_,rb1,rb2,hb,_⟩:=et;rw [aCV s t h.1 ((jO _ _).2 ns) ((jO _ _).2 nt),p1,p2,p3,p4];unfold gV;rw [if_pos h];have hl:aM (HR s t)=true∧key (HR s t)=(if key (bM s).1<key (bM t).1 then key (bM t).1 else key (bM s).1):=by
  unfold HR;simp only [jF ra1 rb1,WT];by_cases hk:key (bM s).1<key (bM t).1
  ·rw [if_pos hk,if_pos hk];exact⟨rb1,rfl⟩
  rw [if_neg hk,if_neg hk];exact⟨ra1,rfl⟩
 have hh:aM (vW s t)=true∧key (vW s t)=(if key (bM t).2<key (bM s).2 then key (bM t).2 else key (bM s).2):=by
  unfold vW;simp only [jF rb2 ra2,WT];by_cases hk:key (bM t).2<key (bM s).2
  ·rw [if_pos hk,if_pos hk];exact⟨rb2,rfl⟩
  rw [if_neg hk,if_neg hk];exact⟨ra2,rfl⟩
 have hbet:∀ (p:Int × Int) (g:Sg),aM p=true→aM (bM g).1=true→aM (bM g).2=true→KZ p g=decide (key (bM g).1≤key p∧key p≤key (bM g).2):=by
  intro p g hp h1 h2;unfold KZ;rw [jF h1 hp,jF hp h2,Bool.eq_iff_iff];simp only [Bool.and_eq_true,decide_eq_true_eq,aKZ]
 have heq:∀ a b:Int × Int,aM a=true→aM b=true→kD a b=decide (key a=key b):=by
  intro a b h1 h2;rw [Bool.eq_iff_iff,decide_eq_true_eq,XK h1 h2]
 rw [jF hl.1 hh.1,AQ,hl.2,hh.2,aMZ ha hb,hbet _ _ r1 rb1 rb2,hbet _ _ r2 rb1 rb2,hbet _ _ r3 ra1 ra2,hbet _ _ r4 ra1 ra2,heq _ _ r1 r3,heq _ _ r1 r4,heq _ _ r2 r3,heq _ _ r2 r4]
theorem aAw (s t:Sg)(hs:dL s=true)(ht:dL t=true):gV s t=qC s t:=by
 by_cases h:aV s.1 s.2 t.1=0∧aV s.1 s.2 t.2=0
 ·exact aEb s t hs ht h
 exact aEn s t (oO hs).2.2 (oO ht).2.2 h
end Go.Aw

noncomputable section
namespace Go.Aw
theorem bB {ρ:Nat→Nat}{n sz:Nat}{wr g:Bool}{cs cs':List Value}(hg:dP cs=true)(e:cs'=cs):bZ ρ n (.cells wr g sz cs) (.cells wr g sz cs'):=by
 subst e;exact aO hg
theorem vT {α:Type}(fl:α→List Value)(l m:List α):flat fl (l++m)=flat fl l++flat fl m:=by
 induction l with
 |nil=>rfl
 |cons a r ih=>simp only [List.cons_append,flat,ih,List.append_assoc]
theorem mF {α:Type}(E:El α){l:List α}{e:Option Int}{h:Heap}{q nx:Nat}(hl:0<l.length)(hq:look h q=some (.cells true false E.sz (flat E.fl l))):Yields E l e (kQ e (.slice (some ⟨q,0,none⟩) l.length l.length)) h nx:=by
 cases l with
 |nil=>cases hl
 |cons a r=>exact⟨q,rfl,hq⟩
end Go.Aw
end

noncomputable section
namespace Go.Aw
open Go.RowKit
section
variable {α β:Type}(E:El α)
def vOf (l:List α)(e:Option Int):Value:=match l with
 |[]=>kQ e (.slice none 0 0)
 |a::r=>kQ e (.slice (some ⟨0,0,none⟩) (a::r).length (a::r).length)
def hOf (l:List α):Heap:=match l with
 |[]=>[]
 |a::r=>[(0,.cells true false E.sz (flat E.fl (a::r)))]
def mOf (l:List α):Nat:=match l with
 |[]=>0
 |_::_=>1
theorem TA {l:List α}{e:Option Int}{v:Value}{h:Heap}{nx:Nat}(hv:Yields E l e v h nx):PE (vOf l e) (hOf E l) (mOf l) v h nx:=by
 cases l with
 |nil =>
  rw [show v=_ from hv];exact lA (wG e)
 |cons a r =>
  obtain⟨q,rfl,hq⟩:=hv;refine⟨fun _=>q,⟨fun t u hu=>?_,fun k o hk=>?_,fun k k' o o' hk hk' _=>?_,fun k hk=>absurd hk (Nat.not_lt_zero k),Nat.zero_le _⟩⟩
  ·rw [aB] at hu;split at hu
   ·rename_i hb;injection hu with hu;subst hu;exact⟨by rw [aB,hb];show _=some (iM (fun _=>q) (kQ e (.slice (some ⟨0,0,none⟩) (a::r).length (a::r).length)));rw [xJ],P5 e _ _⟩
   exact bX hu
  ·rw [show hOf E (a::r)=[(0,.cells true false E.sz (flat E.fl (a::r)))] from rfl,aB] at hk;split at hk
   ·rename_i hb;injection hk with hk;subst hk;exact⟨by rw [← beq_true hb];exact Nat.one_pos,_,hq,aO (aD E _)⟩
   exact bX hk
  rw [show hOf E (a::r)=[(0,.cells true false E.sz (flat E.fl (a::r)))] from rfl,aB] at hk hk';split at hk
  ·rename_i hb1;split at hk'
   ·rename_i hb2;exact (beq_true hb1).symm.trans (beq_true hb2)
   exact bX hk'
  exact bX hk
def S0 (l:List α)(e:Option Int)(h:Heap)(nx:Nat)(K:KE):Prop:=match l with
 |[]=>K (kQ e (.slice none 0 0)) h nx
 |a::r=>K (kQ e (.slice (some ⟨nx,0,none⟩) (a::r).length (a::r).length)) (bT h nx (.cells true false E.sz (flat E.fl (a::r)))) (nx+1)
theorem aGp {l:List α}{e:Option Int}{h:Heap}{nx:Nat}{K:KE}(hk:S0 E l e h nx K):K (iM (fun k=>nx+k) (vOf l e)) (app (oD nx (hOf E l)) (pT (hOf E l) h)) (nx+mOf l):=by
 cases l with
 |nil =>
  show K (iM (fun k=>nx+k) (kQ e (.slice none 0 0))) (app [] h) (nx+0);rw [gE (wG e)];exact hk
 |cons a r =>
  have hm:(flat E.fl (a::r)).map (bY (fun k=>nx+k))=flat E.fl (a::r):=bJ (aD E _);show K (iM (fun k=>nx+k) (kQ e (.slice (some ⟨0,0,none⟩) (a::r).length (a::r).length))) (app [(nx+0,.cells true false E.sz ((flat E.fl (a::r)).map (bY (fun k=>nx+k))))] h) (nx+1);rw [xJ,hm];exact hk
theorem aAO (l:List α):iX (hOf E l)=true:=by cases l <;> rfl
def yOf (T:List Value→Heap→Nat→List α→Option Int→Prop):XF:=xOf fun args0 h0 n0 v1 h1 m=>∃ l e,T args0 h0 n0 l e∧v1=vOf l e∧h1=hOf E l∧m=mOf l
theorem WX {P:Program}{C:VC}{f:Nat}{T:List Value→Heap→Nat→List α→Option Int→Prop}(hC:bF P C)(hT:∀ args0 h0 n0 l e,T args0 h0 n0 l e→C f args0 h0 n0 (Yields E l e)):cO P f (yOf E T) :=
 gO hC fun args0 h0 n0 v1 h1 m ⟨l,e,ht,hv,hh,hm⟩=>by
  subst hv hh hm;exact⟨aAO E l,_,hT _ _ _ _ _ ht,fun v h nx hq=>TA E hq⟩
theorem NU {T:List Value→Heap→Nat→List α→Option Int→Prop}{args0:List Value}{h0:Heap}{n0:Nat}{l:List α}{e:Option Int}{args:List Value}{h:Heap}{nx:Nat}{K:KE}(ht:T args0 h0 n0 l e)(hi:In args0 h0 n0 args h nx)(hk:S0 E l e h nx K):yOf E T args h nx K :=
 ⟨args0,h0,n0,_,_,_,⟨l,e,ht,rfl,rfl,rfl⟩,hi,aGp E hk⟩
def rfX (E2:El β)(s:List α→List Value→Option (Bool × List β × Option Int)):XF:=fun args h nx K=>match args with
 |v::r=>∃ l,jG E h v l∧(match s l r with|some p=>dQ p.1 (S0 E2 p.2.1 p.2.2 h nx K)|none=>False)
 |_=>False
end
section
variable {α:Type}(E:El α)
theorem TY {a0 b0 a b:Value}{o1 o2:bV}{h:Heap}{nx n1 c1 n2 c2:Nat}(ha0:a0=.slice (some ⟨0,0,none⟩) n1 c1)(hb0:b0=.slice (some ⟨0,0,none⟩) n2 c2)
  (h1:In [a0] [(0,o1)] 1 [a] h nx) (h2:In [b0] [(0,o2)] 1 [b] h nx) (g1:∃ sz cs,o1=.cells false true sz cs∧dP cs=true) (g2:∃ sz cs,o2=.cells false true sz cs∧dP cs=true) :
  In [a0,.slice (some ⟨1,0,none⟩) n2 c2] [(0,o1),(1,o2)] 2 [a,b] h nx:=by
 subst ha0 hb0;obtain⟨s1,cs1,rfl,gc1⟩:=g1;obtain⟨s2,cs2,rfl,gc2⟩:=g2;intro ι B w H hs;obtain⟨ι1,e1,k1,R1⟩:=h1 ι B w H (fun v hv=>hs v (by cases hv with|head=>exact .head _|tail _ hm=>cases hm));obtain⟨ι2,e2,k2,R2⟩:=h2 ι B w H (fun v hv=>hs v (by cases hv with|head=>exact .tail _ (.head _)|tail _ hm=>cases hm));simp only [List.map_cons,List.map_nil,List.cons.injEq,and_true] at e1 e2;have q1:=R1.obj 0 _ rfl;have q2:=R2.obj 0 _ rfl;have kk1:=k1 _ (.head _);have kk2:=k2 _ (.head _);refine⟨fun k=>if k=0 then ι1 0 else ι2 0,?_,?_,⟨?_,?_,?_,Nat.le_refl _,?_⟩⟩
 ·simp only [List.map_cons,List.map_nil,e1,e2];rfl
 ·intro v hv;cases hv with
  |head=>exact⟨show (0:Nat)<2 by decide,kk1.2⟩
  |tail _ hm =>
   cases hm with
   |head=>exact⟨show (1:Nat)<2 by decide,kk2.2⟩
   |tail _ hm=>cases hm
 ·intro k o hk;have key:∀ {ι:Nat→Loc} {sz:Nat} {cs:List Value} {loc:Loc} (ι':Nat→Loc),dP cs=true→lT ι w.heap.size w (.cells false true sz cs) loc→lT ι' w.heap.size w (.cells false true sz cs) loc:=by
   intro ι sz cs loc ι' hg ho;cases loc with
   |nil p=>exact ho
   |lay b o e =>
    obtain⟨x1,x2,x3⟩:=ho;refine⟨x1,x2,fun i v hv=>?_⟩;rw [x3 i v hv,nH (aW hg (List.mem_of_getElem? hv)),nH (aW hg (List.mem_of_getElem? hv))]
  rw [aB] at hk;split at hk
  ·rename_i hb;injection hk with hk;subst hk;rw [← beq_true hb];exact key _ gc1 q1
  rw [aB] at hk;split at hk
  ·rename_i hb;injection hk with hk;subst hk;rw [← beq_true hb];exact key _ gc2 q2
  exact bX hk
 ·intro k k' o o' hk hk' hne hal b hb;exfalso;rw [aB] at hk;split at hk
  ·injection hk with hk;subst hk;cases hal
  rw [aB] at hk;split at hk
  ·injection hk with hk;subst hk;cases hal
  exact bX hk
 ·intro k o hk;rw [aB] at hk;split at hk
  ·rename_i hb;rw [← beq_true hb];decide
  rw [aB] at hk;split at hk
  ·rename_i hb;rw [← beq_true hb];decide
  exact bX hk
 intro k o hk;rw [aB] at hk;split at hk
 ·injection hk with hk;subst hk;exact fun v hv=>cN (aW gc1 hv)
 rw [aB] at hk;split at hk
 ·injection hk with hk;subst hk;exact fun v hv=>cN (aW gc2 hv)
 exact bX hk
theorem QC {h:Heap}{nx:Nat}{v:Value}{l:List α}(hl:jG E h v l):∃ c,In [.slice (some ⟨0,0,none⟩) l.length c] [(0,.cells false true E.sz (flat E.fl l))] 1 [v] h nx:=by
 unfold jG at hl;split at hl
 ·rename_i n c;obtain⟨rfl,rfl,rfl⟩:=hl;exact⟨0,V1 rfl true E.sz E.pos⟩
 ·rename_i k o n c;obtain⟨rfl,wr,g,sz,cs,hk,hcs⟩:=hl;exact⟨c,aEx rfl hk hcs (aD E l) true E.sz E.pos⟩
 exact hl.elim
def l2X (s:List α→List α→Option (Bool × Value)):XF:=fun args h nx K=>match args with
 |[a,b]=>∃ l1 l2,jG E h a l1∧jG E h b l2∧(match s l1 l2 with|some p=>dQ p.1 (K p.2 h nx)|none=>False)
 |_=>False
theorem aLu {P:Program}{C:VC}{f:Nat}{s:List α→List α→Option (Bool × Value)}(hC:bF P C)
  (hs:∀ l1 l2 v,s l1 l2=some (true,v)→gT v=true∧∀ c1 c2,C f [.slice (some ⟨0,0,none⟩) l1.length c1,.slice (some ⟨1,0,none⟩) l2.length c2] [(0,.cells false true E.sz (flat E.fl l1)),(1,.cells false true E.sz (flat E.fl l2))] 2 (fun u _ _=>u=v)):cO P f (l2X E s):=by
 refine (gO (S:=fun args0 h0 n0 v1 h1 m=>∃ l1 l2 c1 c2,s l1 l2=some (true,v1)∧args0=[.slice (some ⟨0,0,none⟩) l1.length c1,.slice (some ⟨1,0,none⟩) l2.length c2]∧h0=[(0,.cells false true E.sz (flat E.fl l1)),(1,.cells false true E.sz (flat E.fl l2))]∧n0=2∧h1=[]∧m=0) hC ?_).mono ?_ ?_
 ·rintro args0 h0 n0 v1 h1 m ⟨l1,l2,c1,c2,e1,rfl,rfl,rfl,rfl,rfl⟩;obtain⟨a2,a3⟩:=hs l1 l2 v1 e1;exact⟨rfl,_,a3 c1 c2,fun v h nx e=>by rw [e];exact lA a2⟩
 ·intro args h nx K hx;unfold l2X at hx;split at hx
  case h_2=>exact hx.elim
  rename_i a b;obtain⟨l1,l2,hl1,hl2,hx⟩:=hx;split at hx
  case h_2=>exact hx.elim
  rename_i p e1;obtain⟨bb,u⟩:=p;obtain⟨rfl,hx⟩:=aE.1 hx;obtain⟨a2,a3⟩:=hs l1 l2 u e1;obtain⟨c1,i1⟩:=QC (nx:=nx) E hl1;obtain⟨c2,i2⟩:=QC (nx:=nx) E hl2;refine⟨_,_,2,u,[],0,⟨l1,l2,c1,c2,e1,rfl,rfl,rfl,rfl,rfl⟩,TY rfl rfl i1 i2 ⟨_,_,rfl,aD E l1⟩ ⟨_,_,rfl,aD E l2⟩,?_⟩;simp only [pT,uG,oD,lY,gE a2,Nat.add_zero];exact hx
 intro args h nx K hx;unfold l2X at hx;split at hx
 case h_2=>exact hx.elim
 rename_i a b;obtain⟨l1,l2,hl1,hl2,hx⟩:=hx;split at hx
 case h_2=>exact hx.elim
 rename_i p e1;obtain⟨hb,hx⟩:=aE.1 hx;exact⟨p.2,h,nx,hx,fun K' hk=>⟨l1,l2,hl1,hl2,by rw [e1];exact aI hb hk⟩⟩
end
end Go.Aw
end
