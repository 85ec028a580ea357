/-
  Parts of a proof. No condition.
-/
import Derived.Test.YticajjhjehljpaaGreatQAl
import Derived.Test.YticajjhjehljpaaGreatQAn
import Derived.WalkKit
set_option linter.unusedSimpArgs false
set_option linter.unusedVariables false
noncomputable section
namespace Go.Aw
open Go.RowKit
theorem bA {α:Type}{l:List (Nat × α)}{k:Nat}{o:α}(h:look l k=some o):(k,o)∈l:=by
 induction l with
 |nil=>exact cK h
 |cons x r ih =>
  obtain⟨j,q⟩:=x;rw [aB] at h;split at h
  ·rename_i hb;have:=beq_true hb;subst this;injection h with h;subst h;exact .head _
  ·exact .tail _ (ih h)
theorem bV {l:List Value}(h:eY l=true){v:Value}(hv:v∈l):gT v=true:=by
 induction l with
 |nil=>cases hv
 |cons x r ih =>
  simp only [eY,Bool.and_eq_true] at h;cases hv with
  |head =>
   have:=h.1;cases v <;> first|exact this|(simp [gA,gS] at this)
  |tail _ hm=>exact ih h.2 hm
theorem Y4 {k o n c:Nat}{r:List Value}(hr:eY r=true){h:Heap}{nx:Nat}{wr g:Bool}{sz0:Nat}{cs:List Value}(hk:look h k=some (.cells wr g sz0 cs)){cs0:List Value}(hcs:(cs.drop o).take cs0.length=cs0)(hg:dE cs0=true)(g0:Bool)(sz:Nat)(hz:sz≠0) :
  In (.slice (some ⟨0,0,none⟩) n c::r) [(0,.cells false g0 sz cs0)] 1 (.slice (some ⟨k,o,none⟩) n c::r) h nx:=by
 intro ι B w H hs;have hx:k<nx∧((ι k).gC=false→n=0∧c=0):=hs _ (.head _);have hmap:∀ ι1 ι2:Nat→Loc,r.map (tr ι1)=r.map (tr ι2):=fun ι1 ι2=>List.map_congr_left fun v hv=>(by rw [fU (bV hr hv),fU (bV hr hv)]);have hsc:∀ ι0:Nat→Loc,∀ v∈r,eG ι0 1 v:=fun ι0 v hv=>dD (bV hr hv);have ho:=H.obj k _ hk;cases hι:ι k with
 |nil p =>
  rw [hι] at ho;have hnil:cs=[]:=(by cases wr <;> exact ho.1);subst hnil;have h0:cs0=[]:=(by rw [← hcs];simp);subst h0;refine⟨fun _=>.nil p,?_,?_,⟨?_,?_,?_,Nat.le_refl _,?_⟩⟩
  ·rw [List.map_cons,List.map_cons,hmap ι];congr 1;simp [tr,dS,bQ,dU,hι]
  ·intro v hv;cases hv with
   |head=>exact⟨Nat.one_pos,fun _=>hx.2 (by rw [hι];rfl)⟩
   |tail _ hm=>exact hsc _ v hm
  ·intro j q hq;rw [aB] at hq;split at hq
   ·injection hq with hq;subst hq;exact⟨rfl,fun h=>h.elim (fun h=>absurd h hz) (fun h=>by cases h)⟩
   ·exact cK hq
  ·intro j j' q q' hq hq' hne ha b hb;cases hb
  ·intro j q hq;rw [aB] at hq;split at hq
   ·rename_i hb;rw [← beq_true hb];exact Nat.one_pos
   ·exact cK hq
  ·intro j q hq;rw [aB] at hq;split at hq
   ·injection hq with hq;subst hq;intro v hv;cases hv
   ·exact cK hq
 |lay b off e =>
  have hlt:b<w.heap.size:=ho.lt (by rw [hι];rfl);refine⟨fun _=>.lay b (off+o) e,?_,?_,⟨?_,?_,?_,Nat.le_refl _,?_⟩⟩
  ·rw [List.map_cons,List.map_cons,hmap ι];congr 1;simp [tr,dS,bQ,dU,hι]
  ·intro v hv;cases hv with
   |head=>exact⟨Nat.one_pos,fun h=>by cases h⟩
   |tail _ hm=>exact hsc _ v hm
  ·intro j q hq;rw [aB] at hq;split at hq
   ·injection hq with hq;subst hq;refine⟨hlt,fun _=>hg,fun i v hv=>?_⟩;have hv2:cs[o+i]? = some v:=by
     rw [← hcs] at hv;rw [List.getElem?_take] at hv;split at hv
     ·rw [List.getElem?_drop] at hv;exact hv
     ·cases hv
    obtain⟨b',off',e',hι',hc⟩:=H.cell hk hv2;rw [hι] at hι';injection hι' with e1 e2 e3;subst e1;subst e2;have hgv:=a9 hg (List.mem_of_getElem? hv);rw [Nat.add_assoc,hc,mT hgv,mT hgv]
   ·exact cK hq
  ·intro j j' q q' hq hq' hne ha b hb;rw [aB] at hq hq';split at hq
   ·rename_i hb1;split at hq'
    ·rename_i hb2;exact absurd ((beq_true hb1).symm.trans (beq_true hb2)) hne
    ·exact cK hq'
   ·exact cK hq
  ·intro j q hq;rw [aB] at hq;split at hq
   ·rename_i hb;rw [← beq_true hb];exact Nat.one_pos
   ·exact cK hq
  ·intro j q hq;rw [aB] at hq;split at hq
   ·injection hq with hq;subst hq;exact fun v hv=>cD (a9 hg hv)
   ·exact cK hq
end Go.Aw
end

noncomputable section
namespace Go.Aw
def ltF:Int→Int→Bool
 |.ofNat m,.ofNat n=>Nat.blt m n
 |.ofNat _,.negSucc _=>false
 |.negSucc _,.ofNat _=>true
 |.negSucc m,.negSucc n=>Nat.blt n m
def leF:Int→Int→Bool
 |.ofNat m,.ofNat n=>Nat.ble m n
 |.ofNat _,.negSucc _=>false
 |.negSucc _,.ofNat _=>true
 |.negSucc m,.negSucc n=>Nat.ble n m
def eqF:Int→Int→Bool
 |.ofNat m,.ofNat n=>Nat.beq m n
 |.ofNat _,.negSucc _=>false
 |.negSucc _,.ofNat _=>false
 |.negSucc m,.negSucc n=>Nat.beq m n
def SM:IntKind→Int→Bool
 |.i64,.ofNat m=>Nat.ble m 9223372036854775807
 |.i64,.negSucc m=>Nat.ble m 9223372036854775807
 |k,n=>aK k n
theorem aBD (m n:Nat):Nat.blt m n=decide (m<n):=by
 cases h:Nat.blt m n with
 |true=>exact (decide_eq_true (oX h)).symm
 |false =>
  refine (decide_eq_false fun hl=>?_).symm;have:Nat.blt m n=true:=Nat.ble_eq_true_of_le hl;rw [h] at this;cases this
theorem S2 (m n:Nat):Nat.ble m n=decide (m≤n):=by
 cases h:Nat.ble m n with
 |true=>exact (decide_eq_true (Nat.le_of_ble_eq_true h)).symm
 |false =>
  refine (decide_eq_false fun hl=>?_).symm;have:Nat.ble m n=true:=Nat.ble_eq_true_of_le hl;rw [h] at this;cases this
theorem aCj (m n:Nat):Nat.beq m n=decide (m=n):=by
 cases h:Nat.beq m n with
 |true=>exact (decide_eq_true (beq_true h)).symm
 |false=>exact (decide_eq_false (beq_false h)).symm
theorem aH6 (a b:Int):ltF a b=decide (a<b):=by
 rw [Bool.eq_iff_iff];cases a <;> cases b <;> simp only [ltF,aBD,decide_eq_true_eq,Int.ofNat_eq_natCast,Int.negSucc_eq,Bool.false_eq_true,false_iff,true_iff] <;> omega
theorem aGi (a b:Int):leF a b=decide (a≤b):=by
 rw [Bool.eq_iff_iff];cases a <;> cases b <;> simp only [leF,S2,decide_eq_true_eq,Int.ofNat_eq_natCast,Int.negSucc_eq,Bool.false_eq_true,false_iff,true_iff] <;> omega
theorem aEE (a b:Int):eqF a b=decide (a=b):=by
 rw [Bool.eq_iff_iff];cases a <;> cases b <;> simp only [eqF,aCj,decide_eq_true_eq,Int.ofNat_eq_natCast,Int.negSucc_eq,Bool.false_eq_true,false_iff,true_iff] <;> omega
theorem Z1 (k:IntKind)(n:Int):SM k n=aK k n:=by
 cases k <;> try rfl
 rw [Bool.eq_iff_iff];cases n <;> simp only [SM,aK,S2,Bool.and_eq_true,decide_eq_true_eq,Int.ofNat_eq_natCast,Int.negSucc_eq] <;> omega
def T9:Ar:={ aG with
 add:=Int.add,sub:=Int.sub,mul:=Int.mul
 lt:=ltF,le:=leF,eq:=eqF,fits:=SM
 ix:=fun o i s=>Nat.add o (Nat.mul i.toNat s)
 num:=Int.ofNat,fD:=Int.toNat,subN:=Nat.sub }
theorem X1:T9=aG:=by
 unfold T9
 rw [show ltF=aG.lt from funext fun a=>funext fun b=>aH6 a b,show leF=aG.le from funext fun a=>funext fun b=>aGi a b,
  show eqF=aG.eq from funext fun a=>funext fun b=>aEE a b,show SM=aG.fits from funext fun a=>funext fun b=>Z1 a b]
 rfl
def aJv:B9:={ A:=T9,T:=tyT,FT:=look ftL,PL:=plF,PR:=fun _=>false,X:=fun _=>none,M:=1000 }
theorem TO:∀ {l:List (Nat × Func)} {f:Nat} {fn:Func},K8 l=true→(f,fn)∈l→fnB f fn=true
 |[],_,_,_,h=>by cases h
 |(g,gn)::r,f,fn,hb,h=>by
  simp only [K8,Bool.and_eq_true] at hb;cases h with
  |head=>exact hb.1
  |tail _ hm=>exact TO hb.2 hm
theorem OB (f : Nat)(fn : Func)(h : look ftL f = some fn) : Go.Proofs.Tryz.prog.funcs[f]? = some fn ∧ (fn.name == "runtime.NumGoroutine") = false ∧ ∀ b, fn.body = some b → dN (plF f) b = true := by
 have hm:=bA h;have hb:=TO aH4 hm;unfold fnB at hb;simp only [Bool.and_eq_true,Bool.not_eq_true'] at hb;have h1:Go.Proofs.Tryz.prog.funcs[(f,fn).1]? = some (f,fn).2:=aGB (f,fn) hm;refine⟨h1,hb.1,?_⟩;have h2:=hb.2;generalize plF f=Φ at h2 ⊢;intro b he;simp only [he] at h2;exact h2
theorem DA (X:Nat→Option (List Value→Heap→Nat→KE→Prop))(hX:∀ f x,X f=some x→dK Go.Proofs.Tryz.prog f x)(PR:Nat→Bool)(M:Nat):oS Go.Proofs.Tryz.prog { A:=T9,T:=tyT,FT:=look ftL,PL:=plF,PR:=PR,X:=X,M:=M } where
 ar:=X1
 tab:=I0 X4
 mixed:=by decide +kernel
 funcs:=OB
 xs:=hX
def iv (n:Int):Value:=.int .i64 n
def pt (x y:Int):Value:=.agg #[iv x,iv y]
end Go.Aw
end

noncomputable section
namespace Go.Aw
open Go.RowKit
theorem bm {b:Bool}{X Y:Prop}(h1:b=true→X)(h2:b=false→Y):(match (generalizing:=false) b with|true=>X|false=>Y):=by
 cases b
 ·exact h2 rfl
 ·exact h1 rfl
theorem K6 {x:Option (List Value)}{v:List Value}{G:List Value→Prop}(h:x=some v)(k:G v):(match (generalizing:=false) x with|some v=>G v|none=>False):=by
 subst h;exact k
theorem lD {x:Option Value}{v:Value}{G:Value→Prop}(h:x=some v)(k:G v):(match (generalizing:=false) x with|some v=>G v|none=>False):=by
 subst h;exact k
abbrev XF:=List Value→Heap→Nat→KE→Prop
def CX (X:Nat→Option XF):VC:=fun f args h nx K=>match X f with|some x=>x args h nx K|none=>False
def noY:VY:=fun _ _ _ _ _=>False
theorem R5 {P:Program}{X:Nat→Option XF}(hX:∀ f x,X f=some x→dK P f x):bF P (CX X):=by
 intro f args h nx K hl ι B w H hs;unfold CX at hl;split at hl
 ·rename_i x hx;exact (hX f x hx).1 args h nx K hl ι B w H hs
 ·exact hl.elim
theorem KJ {P:Program}{X:Nat→Option XF}(hX:∀ f x,X f=some x→dK P f x):dM (CX X):=by
 intro f args h nx K hl;unfold CX at hl;split at hl
 ·rename_i x hx;obtain⟨v,h',nx',k1,k2⟩:=(hX f x hx).2 args h nx K hl;exact⟨v,h',nx',k1,fun K' hk=>by unfold CX;rw [hx];exact k2 K' hk⟩
 ·exact hl.elim
theorem O9 {P:Program}:dW P noY:=fun _ _ _ _ _ hl=>hl.elim
theorem CF:dM noY:=fun _ _ _ _ _ hl=>hl.elim
theorem dK.mono {P:Program}{f:Nat}{x x':XF}(h:dK P f x)(hm:∀ args h nx K,x' args h nx K→x args h nx K)(hd:∀ args h nx,eL (x' args h nx)):dK P f x' :=
 ⟨fun args hh nx K hx=>h.1 args hh nx K (hm _ _ _ _ hx),hd⟩
def gX (s:List Value→Option (Bool × Value)):XF:=fun args h nx K=>match s args with|some p=>dI p.1 (K p.2 h nx)|none=>False
theorem nJ (h:Heap):app h []=h:=by
 induction h with
 |nil=>rfl
 |cons x r ih=>simp only [app,ih]
theorem uD {P:Program}{C:VC}{f:Nat}{s:List Value→Option (Bool × Value)}(hC:bF P C)
  (hs:∀ args v,s args=some (true,v)→eY args=true∧gT v=true∧C f args [] 0 (fun u _ _=>u=v)):dK P f (gX s):=by
 refine (jU (S:=fun args0 h0 n0 v1 h1 m=>s args0=some (true,v1)∧h0=[]∧n0=0∧h1=[]∧m=0) hC ?_).mono ?_ ?_
 ·rintro args0 h0 n0 v1 h1 m ⟨e1,rfl,rfl,rfl,rfl⟩;obtain⟨a1,a2,a3⟩:=hs args0 v1 e1;refine⟨rfl,?_⟩;exact⟨_,a3,fun v h nx e=>by rw [e];exact mJ a2⟩
 ·intro args h nx K hx;unfold gX at hx;split at hx
  ·rename_i p e1;obtain⟨b,v⟩:=p;obtain⟨rfl,hx⟩:=aD.1 hx;obtain⟨a1,a2,a3⟩:=hs args v e1;refine⟨args,[],0,v,[],0,⟨e1,rfl,rfl,rfl,rfl⟩,aJH fun u hu=>bV a1 hu,?_⟩;simp only [qH,wQ,m8,nJ,sI a2,Nat.add_zero];exact hx
  ·exact hx.elim
 ·intro args h nx K hx;unfold gX at hx;split at hx
  ·rename_i p e1;obtain⟨hb,hx⟩:=aD.1 hx;exact⟨p.2,h,nx,hx,fun K' hk=>by unfold gX;rw [e1];exact aJ hb hk⟩
  ·exact hx.elim
theorem aI {ρ:Nat→Nat}{n sz:Nat}{wr g:Bool}{cs:List Value}(hg:dE cs=true):bT ρ n (.cells wr g sz cs) (.cells wr g sz cs) :=
 ⟨rfl,rfl,rfl,(bP hg).symm,fun v hv=>cD (a9 hg hv)⟩
theorem c8 {b n0 nx:Nat}{I:KS}{e0 e:List (Nat × Value)}{h0 h:Heap}(hI:I e0 h0 n0)(he:∀ p∈e0,look e p.1=some (iM id p.2)∧BK n0 p.2)
  (hh:∀ p∈h0,p.1<n0∧∃ o',look h (id p.1)=some o'∧bT id n0 p.2 o') (hb:b≤n0):qI b I e h nx :=
 ⟨e0,h0,n0,id,hI,fun t v hv=>he (t,v) (bA hv),fun k o hk=>hh (k,o) (bA hk),fun k k' o o' _ _ e=>e,fun k _=>rfl,hb⟩
def flat {α:Type}(fl:α→List Value):List α→List Value
 |[]=>[]
 |a::r=>fl a++flat fl r
structure El (α:Type) where
 fl:α→List Value
 sz:Nat
 len:∀ a,(fl a).length=sz
 gr:∀ a,dE (fl a)=true
 pos:sz≠0:=by decide
section
variable {α:Type}(E:El α)
theorem cG (l:List α):(flat E.fl l).length=l.length*E.sz:=by
 induction l with
 |nil=>simp [flat]
 |cons a r ih=>simp only [flat,List.length_append,E.len,ih,List.length_cons,Nat.succ_mul];omega
theorem aF (l:List α):dE (flat E.fl l)=true:=by
 induction l with
 |nil=>rfl
 |cons a r ih=>simp only [flat,LP,E.gr,ih,Bool.and_self]
theorem aCz {l:List Value}{o n:Nat}(h:o+n≤l.length):m9 l o n=some ((l.drop o).take n):=by
 induction n generalizing o with
 |zero=>simp [m9]
 |succ n ih =>
  have hlt:o<l.length:=(by omega);simp only [m9,vP,List.getElem?_eq_getElem hlt,ih (o:=o+1) (by omega)];congr 1;rw [List.drop_eq_getElem_cons hlt];rfl
theorem JI (l:List α)(i:Nat)(hi:i<l.length):((flat E.fl l).drop (i*E.sz)).take E.sz=E.fl l[i]:=by
 induction l generalizing i with
 |nil=>simp at hi
 |cons a r ih =>
  cases i with
  |zero =>
   simp only [flat,Nat.zero_mul,List.drop_zero,List.getElem_cons_zero];rw [List.take_append_of_le_length (by rw [E.len];exact Nat.le_refl _),List.take_of_length_le (by rw [E.len];exact Nat.le_refl _)]
  |succ i =>
   have hl:(fl:List Value)→True:=fun _=>trivial;simp only [flat,List.getElem_cons_succ];rw [show (i+1)*E.sz=(E.fl a).length+i*E.sz by rw [E.len,Nat.succ_mul];omega,List.drop_append,Nat.add_sub_cancel_left,List.drop_eq_nil_of_le (by omega),List.nil_append];exact ih i (by simpa using hi)
theorem D5 (l:List α){i o:Nat}(hi:i<l.length)(ho:o=i*E.sz):m9 (flat E.fl l) o E.sz=some (E.fl l[i]):=by
 subst ho;have h1:(i+1)*E.sz≤l.length*E.sz:=Nat.mul_le_mul_right _ hi;rw [aCz (by rw [cG];rw [Nat.succ_mul] at h1;exact h1),JI E l i hi]
def n9 (h:Heap)(v:Value)(l:List α):Prop :=
 match v with
 |.slice none n c=>n=0∧c=0∧l=[]
 |.slice (some ⟨k,o,none⟩) n _=>n=l.length∧∃ wr g sz cs,look h k=some (.cells wr g sz cs)∧(cs.drop o).take (flat E.fl l).length=flat E.fl l
 |_=>False
def lX (s:List α→List Value→Option (Bool × Value)):XF:=fun args h nx K=>match args with
 |v::r=>∃ l,n9 E h v l∧(match s l r with|some p=>dI p.1 (K p.2 h nx)|none=>False)
 |_=>False
theorem Q3 {r:List Value}(hr:eY r=true){h:Heap}{nx:Nat}(g0:Bool)(sz:Nat)(hz:sz≠0):In (.slice (some ⟨0,0,none⟩) 0 0::r) [(0,.cells false g0 sz [])] 1 (.slice none 0 0::r) h nx:=by
 intro ι B w H hs;have hmap:∀ ι1 ι2:Nat→Loc,r.map (tr ι1)=r.map (tr ι2):=fun ι1 ι2=>List.map_congr_left fun v hv=>(by rw [fU (bV hr hv),fU (bV hr hv)]);refine⟨fun _=>.nil none,?_,?_,⟨?_,?_,?_,Nat.le_refl _,?_⟩⟩
 ·rw [List.map_cons,List.map_cons,hmap ι];rfl
 ·intro v hv;cases hv with
  |head=>exact⟨Nat.one_pos,fun _=>⟨rfl,rfl⟩⟩
  |tail _ hm=>exact dD (bV hr hm)
 ·intro j q hq;rw [aB] at hq;split at hq
  ·injection hq with hq;subst hq;exact⟨rfl,fun h=>h.elim (fun h=>absurd h hz) (fun h=>by cases h)⟩
  ·exact cK hq
 ·intro j j' q q' hq hq' hne ha b hb;cases hb
 ·intro j q hq;rw [aB] at hq;split at hq
  ·rename_i hb;rw [← beq_true hb];exact Nat.one_pos
  ·exact cK hq
 ·intro j q hq;rw [aB] at hq;split at hq
  ·injection hq with hq;subst hq;intro v hv;cases hv
  ·exact cK hq
theorem UY {P:Program}{C:VC}{f:Nat}{s:List α→List Value→Option (Bool × Value)}(hC:bF P C)
  (hs:∀ l r v,s l r=some (true,v)→eY r=true∧gT v=true∧∀ c,C f (.slice (some ⟨0,0,none⟩) l.length c::r) [(0,.cells false true E.sz (flat E.fl l))] 1 (fun u _ _=>u=v)):dK P f (lX E s):=by
 refine (jU (S:=fun args0 h0 n0 v1 h1 m=>∃ l r c,s l r=some (true,v1)∧args0=.slice (some ⟨0,0,none⟩) l.length c::r∧h0=[(0,.cells false true E.sz (flat E.fl l))]∧n0=1∧h1=[]∧m=0) hC ?_).mono ?_ ?_
 ·rintro args0 h0 n0 v1 h1 m ⟨l,r,c,e1,rfl,rfl,rfl,rfl,rfl⟩;obtain⟨a1,a2,a3⟩:=hs l r v1 e1;exact⟨rfl,_,a3 c,fun v h nx e=>by rw [e];exact mJ a2⟩
 ·intro args h nx K hx;unfold lX at hx;split at hx
  case h_2=>exact hx.elim
  rename_i v r;obtain⟨l,hl,hx⟩:=hx;split at hx
  case h_2=>exact hx.elim
  rename_i p e1;obtain⟨b,u⟩:=p;obtain⟨rfl,hx⟩:=aD.1 hx;obtain⟨a1,a2,a3⟩:=hs l r u e1;have hK:K (iM (fun k=>nx+k) u) (app (m8 nx []) (qH [] h)) (nx+0):=by
   simp only [qH,wQ,m8,nJ,sI a2,Nat.add_zero];exact hx
  unfold n9 at hl;split at hl
  ·rename_i n c;obtain⟨rfl,rfl,rfl⟩:=hl;exact⟨_,_,1,u,[],0,⟨[],r,0,e1,rfl,rfl,rfl,rfl,rfl⟩,Q3 a1 true E.sz E.pos,hK⟩
  ·rename_i k o n c;obtain⟨rfl,wr,g,sz,cs,hk,hcs⟩:=hl;exact⟨_,_,1,u,[],0,⟨l,r,c,e1,rfl,rfl,rfl,rfl,rfl⟩,Y4 a1 hk hcs (aF E l) true E.sz E.pos,hK⟩
  ·exact hl.elim
 ·intro args h nx K hx;unfold lX at hx;split at hx
  case h_2=>exact hx.elim
  rename_i v r;obtain⟨l,hl,hx⟩:=hx;split at hx
  case h_2=>exact hx.elim
  rename_i p e1;obtain⟨hb,hx⟩:=aD.1 hx;exact⟨p.2,h,nx,hx,fun K' hk=>⟨l,hl,by rw [e1];exact aJ hb hk⟩⟩
end
end Go.Aw
end

noncomputable section
namespace Go.Aw
def aA:B9:={ A:=aG,T:=tyT,FT:=look ftL,PL:=plF,PR:=fun _=>false,X:=fun _=>none,M:=0 }
theorem fN:oS Go.Proofs.Tryz.prog aA where
 ar:=rfl
 tab:=I0 X4
 mixed:=by decide +kernel
 funcs:=OB
 xs:=fun _ _ h=>by cases h
def body (xl:List (Nat × XF)):VC:=qU aA none (CX (look xl)) noY
def lB (xl:List (Nat × XF)):Prop:=∀ p∈xl,dK Go.Proofs.Tryz.prog p.1 p.2
theorem lB.nil:lB []:=fun _ h=>by cases h
theorem lB.cons {f:Nat}{x:XF}{l:List (Nat × XF)}(h:dK Go.Proofs.Tryz.prog f x)(hl:lB l):lB ((f,x)::l):=List.forall_mem_cons.2 ⟨h,hl⟩
theorem lB.look {xl:List (Nat × XF)}(h:lB xl)(f:Nat)(x:XF)(hx:look xl f=some x):dK Go.Proofs.Tryz.prog f x:=h (f,x) (bA hx)
theorem aR {xl:List (Nat × XF)}(h:lB xl):bF Go.Proofs.Tryz.prog (body xl):=yB fN (R5 h.look) O9 (KJ h.look) CF none
def SE (p:Int × Int):Value:=.agg #[iv p.1,iv p.2]
def WN:Value→Option Int
 |.int .i64 n=>some n
 |_=>none
def RB:Value→Option (Int × Int)
 |.agg ⟨[.int .i64 x,.int .i64 y]⟩=>some (x,y)
 |_=>none
theorem BL {v:Value}{n:Int}(h:WN v=some n):v=iv n:=by
 unfold WN at h;split at h
 ·injection h with h;subst h;rfl
 ·cases h
theorem wE {v:Value}{p:Int × Int}(h:RB v=some p):v=SE p:=by
 unfold RB at h;split at h
 ·injection h with h;subst h;rfl
 ·cases h
def s1P (F:Int × Int→Bool × Value):List Value→Option (Bool × Value)
 |[a]=>(match RB a with|some p=>some (F p)|none=>none)
 |_=>none
theorem aDs {F:Int × Int→Bool × Value}{args:List Value}{r:Bool × Value}(h:s1P F args=some r):∃ p,args=[SE p]∧F p=r:=by
 unfold s1P at h;split at h
 ·split at h
  ·rename_i p e;injection h with h;exact⟨p,by rw [wE e],h⟩
  ·cases h
 ·cases h
def s3P (F:Int × Int→Int × Int→Int × Int→Bool × Value):List Value→Option (Bool × Value)
 |[a,b,c]=>(match RB a with|some p=>(match RB b with|some q=>(match RB c with|some r=>some (F p q r)|none=>none)|none=>none)|none=>none)
 |_=>none
theorem aDb {F:Int × Int→Int × Int→Int × Int→Bool × Value}{args:List Value}{r:Bool × Value}(h:s3P F args=some r):∃ p q s,args=[SE p,SE q,SE s]∧F p q s=r:=by
 unfold s3P at h;split at h
 ·split at h
  ·rename_i p e;split at h
   ·rename_i q e2;split at h
    ·rename_i s e3;injection h with h;exact⟨p,q,s,by rw [wE e,wE e2,wE e3],h⟩
    ·cases h
   ·cases h
  ·cases h
 ·cases h
def s1I (F:Int→Bool × Value):List Value→Option (Bool × Value)
 |[a]=>(match WN a with|some p=>some (F p)|none=>none)
 |_=>none
theorem aC2 {F:Int→Bool × Value}{args:List Value}{r:Bool × Value}(h:s1I F args=some r):∃ p,args=[iv p]∧F p=r:=by
 unfold s1I at h;split at h
 ·split at h
  ·rename_i p e;injection h with h;exact⟨p,by rw [BL e],h⟩
  ·cases h
 ·cases h
def s2I (F:Int→Int→Bool × Value):List Value→Option (Bool × Value)
 |[a,b]=>(match WN a with|some p=>(match WN b with|some q=>some (F p q)|none=>none)|none=>none)
 |_=>none
theorem aDa {F:Int→Int→Bool × Value}{args:List Value}{r:Bool × Value}(h:s2I F args=some r):∃ p q,args=[iv p,iv q]∧F p q=r:=by
 unfold s2I at h;split at h
 ·split at h
  ·rename_i p e;split at h
   ·rename_i q e2;injection h with h;exact⟨p,q,by rw [BL e,BL e2],h⟩
   ·cases h
  ·cases h
 ·cases h
def eZ (xl:List (Nat × XF))(f:Nat)(args:List Value)(v:Value):Prop:=body xl f args [] 0 (fun u _ _=>u=v)
theorem x1P {xl:List (Nat × XF)}(hx:lB xl){f:Nat}{F:Int × Int→Bool × Value}(hg:∀ p,gT (F p).2=true)(h:∀ p,(F p).1=true→eZ xl f [SE p] (F p).2):dK Go.Proofs.Tryz.prog f (gX (s1P F)) :=
 uD (aR hx) fun args v hs=>by
  obtain⟨p,rfl,e⟩:=aDs hs;have h1:(F p).1=true:=(by rw [e]);have h2:(F p).2=v:=(by rw [e]);subst h2;exact⟨rfl,hg p,h p h1⟩
theorem x3P {xl:List (Nat × XF)}(hx:lB xl){f:Nat}{F:Int × Int→Int × Int→Int × Int→Bool × Value}(hg:∀ p q r,gT (F p q r).2=true)(h:∀ p q r,(F p q r).1=true→eZ xl f [SE p,SE q,SE r] (F p q r).2):dK Go.Proofs.Tryz.prog f (gX (s3P F)) :=
 uD (aR hx) fun args v hs=>by
  obtain⟨p,q,r,rfl,e⟩:=aDb hs;have h1:(F p q r).1=true:=(by rw [e]);have h2:(F p q r).2=v:=(by rw [e]);subst h2;exact⟨rfl,hg p q r,h p q r h1⟩
theorem x1I {xl:List (Nat × XF)}(hx:lB xl){f:Nat}{F:Int→Bool × Value}(hg:∀ p,gT (F p).2=true)(h:∀ p,(F p).1=true→eZ xl f [iv p] (F p).2):dK Go.Proofs.Tryz.prog f (gX (s1I F)) :=
 uD (aR hx) fun args v hs=>by
  obtain⟨p,rfl,e⟩:=aC2 hs;have h1:(F p).1=true:=(by rw [e]);have h2:(F p).2=v:=(by rw [e]);subst h2;exact⟨rfl,hg p,h p h1⟩
theorem x2I {xl:List (Nat × XF)}(hx:lB xl){f:Nat}{F:Int→Int→Bool × Value}(hg:∀ p q,gT (F p q).2=true)(h:∀ p q,(F p q).1=true→eZ xl f [iv p,iv q] (F p q).2):dK Go.Proofs.Tryz.prog f (gX (s2I F)) :=
 uD (aR hx) fun args v hs=>by
  obtain⟨p,q,rfl,e⟩:=aDa hs;have h1:(F p q).1=true:=(by rw [e]);have h2:(F p q).2=v:=(by rw [e]);subst h2;exact⟨rfl,hg p q,h p q h1⟩
def a8:El (Int × Int):=⟨fun p=>[iv p.1,iv p.2],2,fun _=>rfl,fun _=>rfl,by decide⟩
def aW (p:Int × Int):Bool:=decide (0≤p.1)&&decide (p.1≤10000)&&decide (0≤p.2)&&decide (p.2≤10000)
def wide (p:Int × Int):Bool:=decide (-1000000≤p.1)&&decide (p.1≤1000000)&&decide (-1000000≤p.2)&&decide (p.2≤1000000)
def aV (a b c:Int × Int):Int:=(b.1 - a.1)*(c.2 - a.2) - (b.2 - a.2)*(c.1 - a.1)
def U5 (n:Int):Int:=if n<0 then -1 else if 0<n then 1 else 0
def gH (a b:Int):Int:=if a<b then -1 else if b<a then 1 else 0
def aT (a b c:Int × Int):Int:=U5 (aV a b c)
set_option maxRecDepth 100000
def X58:Nat × XF:=(77,gX (s1P fun p=>(true,.bool (aW p))))
theorem x58:dK Go.Proofs.Tryz.prog X58.1 X58.2:=x1P .nil (fun _=>rfl) fun p _=>by
 obtain⟨x,y⟩:=p;unfold eZ
 repeat' (conv=>whnf
          refine bm (fun h=>?_) (fun h=>?_))
 all_goals (conv=>whnf)
 all_goals (simp [aA,aG] at *;simp [aW, *] <;> omega)
theorem GV {a b A B:Int}(h1 : -A≤a)(h2:a≤A)(h3 : -B≤b)(h4:b≤B) : -(A*B)≤a*b∧a*b≤A*B:=by
 have e1:=Int.mul_nonneg (show 0≤A - a by omega) (show 0≤B+b by omega);have e2:=Int.mul_nonneg (show 0≤A+a by omega) (show 0≤B - b by omega);have e3:=Int.mul_nonneg (show 0≤A - a by omega) (show 0≤B - b by omega);have e4:=Int.mul_nonneg (show 0≤A+a by omega) (show 0≤B+b by omega);simp only [Int.sub_mul,Int.mul_sub,Int.add_mul,Int.mul_add] at e1 e2 e3 e4;omega
set_option maxRecDepth 100000
def aGa:Nat × XF:=(161,gX (s1I fun p=>(true,.bool false)))
theorem aK7:dK Go.Proofs.Tryz.prog aGa.1 aGa.2:=x1I .nil (fun _=>rfl) fun p _=>by
 unfold eZ
 repeat' (conv=>whnf
          refine bm (fun h=>?_) (fun h=>?_))
 all_goals (conv=>whnf)
 all_goals (simp [aA,aG] at *)
def OU:Nat × XF:=(124,gX (s2I fun p q=>(true,iv (gH p q))))
theorem QD:dK Go.Proofs.Tryz.prog OU.1 OU.2:=x2I (xl:=[aGa]) (.cons aK7 .nil) (fun _ _=>rfl) fun p q _=>by
 unfold eZ
 repeat' (conv=>whnf
          refine bm (fun h=>?_) (fun h=>?_))
 all_goals (conv=>whnf)
 all_goals (simp [aA,aG] at *;simp [gH,iv] <;> omega)
def aEN:Nat × XF:=(169,gX (s3P fun a b c=>(wide a&&wide b&&wide c,iv (aV a b c))))
theorem aJV:dK Go.Proofs.Tryz.prog aEN.1 aEN.2:=x3P .nil (fun _ _ _=>rfl) fun a b c hp=>by
 obtain⟨ax,ay⟩:=a;obtain⟨bx,b_y⟩:=b;obtain⟨cx,cy⟩:=c;simp only [wide,Bool.and_eq_true,decide_eq_true_eq] at hp;have m1:=GV (a:=bx - ax) (b:=cy - ay) (A:=2000000) (B:=2000000) (by omega) (by omega) (by omega) (by omega);have m2:=GV (a:=b_y - ay) (b:=cx - ax) (A:=2000000) (B:=2000000) (by omega) (by omega) (by omega) (by omega);unfold eZ
 repeat' (conv=>whnf
          refine bm (fun h=>?_) (fun h=>?_))
 all_goals (conv=>whnf)
 all_goals (simp [aA,aG,aK] at *)
 all_goals first|omega|simp [aV,iv]
def X55:Nat × XF:=(141,gX (s3P fun a b c=>(wide a&&wide b&&wide c,iv (aT a b c))))
theorem x55:dK Go.Proofs.Tryz.prog X55.1 X55.2:=x3P (xl:=[OU,aEN]) (.cons QD (.cons aJV .nil)) (fun _ _ _=>rfl) fun a b c hp=>by
 obtain⟨ax,ay⟩:=a;obtain⟨bx,b_y⟩:=b;obtain⟨cx,cy⟩:=c;unfold eZ
 repeat' (conv=>whnf
          refine bm (fun h=>?_) (fun h=>?_))
 all_goals (conv=>whnf)
 all_goals (simp at *)
 ·simp [aT,gH,U5,iv]
 ·simp_all
def X17:Nat × XF:=(32,gX (s1P fun p=>(true,iv (if aW p then 0 else 1))))
theorem x17:dK Go.Proofs.Tryz.prog X17.1 X17.2:=x1P (xl:=[X58]) (.cons x58 .nil) (fun _=>rfl) fun p _=>by
 obtain⟨x,y⟩:=p;unfold eZ
 repeat' (conv=>whnf
          refine bm (fun h=>?_) (fun h=>?_))
 all_goals (conv=>whnf)
 all_goals (simp [aA,aG] at *;simp [iv, *])
theorem nF {p:Int × Int}(h:aW p=true):wide p=true:=by
 simp only [aW,wide,Bool.and_eq_true,decide_eq_true_eq] at *;omega
end Go.Aw
end

noncomputable section
namespace Go.Aw
set_option maxRecDepth 100000
def s0 (v:Value):List Value→Option (Bool × Value)
 |[]=>some (true,v)
 |_=>none
theorem Q5 (a b c:Int × Int):aV b a c = - aV a b c:=by
 simp only [aV,Int.sub_mul,Int.mul_sub];have h1:=Int.mul_comm a.1 b.2;have h2:=Int.mul_comm a.2 b.1;have h3:=Int.mul_comm a.1 c.2;have h4:=Int.mul_comm a.2 c.1;have h5:=Int.mul_comm b.1 c.2;have h6:=Int.mul_comm b.2 c.1;have h7:=Int.mul_comm a.1 a.2;have h8:=Int.mul_comm b.1 b.2;omega
theorem xJ (a b c:Int × Int) : -1≤aT a b c∧aT a b c≤1:=by
 unfold aT U5;split <;> (try split) <;> omega
end Go.Aw
end

namespace Go.Aw
theorem jW {D u:Int}(hD:0<D)(h:0≤D*u):0≤u:=by
 by_cases hu:0≤u
 ·exact hu
 ·have:0<D*(-u):=Int.mul_pos hD (by omega);rw [Int.mul_neg] at this;omega
theorem aHA {D E t u:Int}(h:D*u=E*t)(hD:0<D)(h0:0≤t)(h1:t≤D):(0≤E→0≤u∧u≤E)∧(E≤0→E≤u∧u≤0):=by
 refine⟨fun hE=>⟨?_,?_⟩,fun hE=>⟨?_,?_⟩⟩
 ·exact jW hD (by rw [h];exact Int.mul_nonneg hE h0)
 ·have h2:0≤D*(E - u):=by
   rw [Int.mul_sub,h,Int.mul_comm D E,← Int.mul_sub];exact Int.mul_nonneg hE (by omega)
  have:=jW hD h2;omega
 ·have h2:0≤D*(u - E):=by
   rw [Int.mul_sub,h,Int.mul_comm D E,← Int.mul_sub];rw [show E*(t - D)=(-E)*(D - t) by rw [Int.neg_mul,← Int.mul_neg];congr 1;omega];exact Int.mul_nonneg (by omega) (by omega)
  have:=jW hD h2;omega
 ·have h2:0≤D*(-u):=by
   rw [Int.mul_neg,h,← Int.neg_mul];exact Int.mul_nonneg (by omega) h0
  have:=jW hD h2;omega
theorem ZM {D u:Int}(h:D*u=0)(hD:D≠0):u=0:=by
 rcases Int.mul_eq_zero.1 h with h|h
 ·exact absurd h hD
 ·exact h
theorem SB {ax ay bx b2 px py:Int}(h:(bx - ax)*(py - ay)=(b2 - ay)*(px - ax))(hlt:ax<bx) :
  ((ax<px∨(ax=px∧ay≤py))∧(px<bx∨(px=bx∧py≤b2)))↔((ax≤px∧px≤bx)∧((ay≤b2→ay≤py∧py≤b2)∧(b2≤ay→b2≤py∧py≤ay))):=by
 constructor
 ·intro⟨h1,h2⟩;have hx:ax≤px∧px≤bx:=(by omega);have hc:=aHA (D:=bx - ax) (E:=b2 - ay) (t:=px - ax) (u:=py - ay) h (by omega) (by omega) (by omega);refine⟨hx,fun he=>?_,fun he=>?_⟩
  ·have:=hc.1 (by omega);omega
  ·have:=hc.2 (by omega);omega
 ·intro⟨h1,h2,h3⟩;have hc:=aHA (D:=bx - ax) (E:=b2 - ay) (t:=px - ax) (u:=py - ay) h (by omega) (by omega) (by omega);refine⟨?_,?_⟩
  ·by_cases e:ax<px
   ·exact .inl e
   ·have e:ax=px:=(by omega);subst e;rw [Int.sub_self,Int.mul_zero] at h;have:=ZM h (by omega);exact .inr ⟨rfl,by omega⟩
  ·by_cases e:px<bx
   ·exact .inl e
   ·have e:px=bx:=(by omega);subst e;have h4:(px - ax)*(py - b2)=0:=by
     rw [show py - b2=(py - ay) - (b2 - ay) by omega,Int.mul_sub,h,Int.mul_comm (b2 - ay)];omega
    have:=ZM h4 (by omega);exact .inr ⟨rfl,by omega⟩
end Go.Aw

noncomputable section
namespace Go.Aw
set_option maxRecDepth 100000
structure Cd (α:Type) where
 dec:Value→Option α
 enc:α→Value
 ok:∀ v a,dec v=some a→v=enc a
 gr:∀ a,gA (enc a)=true
def cI:Cd Int:=⟨WN,iv,fun _ _ h=>BL h,fun _=>rfl⟩
def cP:Cd (Int × Int):=⟨RB,SE,fun _ _ h=>wE h,fun _=>rfl⟩
abbrev Sg:=(Int × Int) × (Int × Int)
def sgv (s:Sg):Value:=.agg #[iv s.1.1,iv s.1.2,iv s.2.1,iv s.2.2]
def aGD:Value→Option Sg
 |.agg ⟨[.int .i64 a,.int .i64 b,.int .i64 c,.int .i64 d]⟩=>some ((a,b),(c,d))
 |_=>none
theorem aDq {v:Value}{s:Sg}(h:aGD v=some s):v=sgv s:=by
 unfold aGD at h;split at h
 ·injection h with h;subst h;rfl
 ·cases h
def cS:Cd Sg:=⟨aGD,sgv,fun _ _ h=>aDq h,fun _=>rfl⟩
section
variable {α β γ:Type}(a:Cd α)(b:Cd β)(c:Cd γ)
def s1 (F:α→Bool × Value):List Value→Option (Bool × Value)
 |[u]=>(match a.dec u with|some x=>some (F x)|none=>none)
 |_=>none
def s2 (F:α→β→Bool × Value):List Value→Option (Bool × Value)
 |[u,v]=>(match a.dec u with|some x=>(match b.dec v with|some y=>some (F x y)|none=>none)|none=>none)
 |_=>none
def s3 (F:α→β→γ→Bool × Value):List Value→Option (Bool × Value)
 |[u,v,w]=>(match a.dec u with|some x=>(match b.dec v with|some y=>(match c.dec w with|some z=>some (F x y z)|none=>none)|none=>none)|none=>none)
 |_=>none
theorem aGN {F:α→Bool × Value}{args:List Value}{r:Bool × Value}(h:s1 a F args=some r):∃ x,args=[a.enc x]∧F x=r:=by
 unfold s1 at h;split at h
 ·split at h
  ·rename_i x e;injection h with h;exact⟨x,by rw [a.ok _ _ e],h⟩
  ·cases h
 ·cases h
theorem aH2 {F:α→β→Bool × Value}{args:List Value}{r:Bool × Value}(h:s2 a b F args=some r):∃ x y,args=[a.enc x,b.enc y]∧F x y=r:=by
 unfold s2 at h;split at h
 ·split at h
  ·rename_i x e;split at h
   ·rename_i y e2;injection h with h;exact⟨x,y,by rw [a.ok _ _ e,b.ok _ _ e2],h⟩
   ·cases h
  ·cases h
 ·cases h
theorem aAV {F:α→β→γ→Bool × Value}{args:List Value}{r:Bool × Value}(h:s3 a b c F args=some r):∃ x y z,args=[a.enc x,b.enc y,c.enc z]∧F x y z=r:=by
 unfold s3 at h;split at h
 ·split at h
  ·rename_i x e;split at h
   ·rename_i y e2;split at h
    ·rename_i z e3;injection h with h;exact⟨x,y,z,by rw [a.ok _ _ e,b.ok _ _ e2,c.ok _ _ e3],h⟩
    ·cases h
   ·cases h
  ·cases h
 ·cases h
theorem x1 {xl:List (Nat × XF)}(hx:lB xl){f:Nat}{F:α→Bool × Value}(hg:∀ x,gT (F x).2=true)(h:∀ x,(F x).1=true→eZ xl f [a.enc x] (F x).2):dK Go.Proofs.Tryz.prog f (gX (s1 a F)) :=
 uD (aR hx) fun args v hs=>by
  obtain⟨x,rfl,e⟩:=aGN a hs;have h1:(F x).1=true:=(by rw [e]);have h2:(F x).2=v:=(by rw [e]);subst h2;exact⟨by simp [eY,a.gr],hg x,h x h1⟩
theorem x2 {xl:List (Nat × XF)}(hx:lB xl){f:Nat}{F:α→β→Bool × Value}(hg:∀ x y,gT (F x y).2=true)(h:∀ x y,(F x y).1=true→eZ xl f [a.enc x,b.enc y] (F x y).2):dK Go.Proofs.Tryz.prog f (gX (s2 a b F)) :=
 uD (aR hx) fun args v hs=>by
  obtain⟨x,y,rfl,e⟩:=aH2 a b hs;have h1:(F x y).1=true:=(by rw [e]);have h2:(F x y).2=v:=(by rw [e]);subst h2;exact⟨by simp [eY,a.gr,b.gr],hg x y,h x y h1⟩
theorem x3 {xl:List (Nat × XF)}(hx:lB xl){f:Nat}{F:α→β→γ→Bool × Value}(hg:∀ x y z,gT (F x y z).2=true)(h:∀ x y z,(F x y z).1=true→eZ xl f [a.enc x,b.enc y,c.enc z] (F x y z).2):dK Go.Proofs.Tryz.prog f (gX (s3 a b c F)) :=
 uD (aR hx) fun args v hs=>by
  obtain⟨x,y,z,rfl,e⟩:=aAV a b c hs;have h1:(F x y z).1=true:=(by rw [e]);have h2:(F x y z).2=v:=(by rw [e]);subst h2;exact⟨by simp [eY,a.gr,b.gr,c.gr],hg x y z,h x y z h1⟩
end
def aHH (xl:List (Nat × XF))(n:Nat):VC:=qU aA (some n) (CX (look xl)) noY
theorem MY {xl:List (Nat × XF)}(h:lB xl)(n:Nat):bF Go.Proofs.Tryz.prog (aHH xl n):=yB fN (R5 h.look) O9 (KJ h.look) CF (some n)
def aU:El Int:=⟨fun n=>[iv n],1,fun _=>rfl,fun _=>rfl,by decide⟩
def XS (a b:Int):Int:=if a=0 then b else a
def aIF:List Int→List Value→Option (Bool × Value)
 |[a,b],[]=>some (true,iv (XS a b))
 |_,_=>none
def Y8:Nat × XF:=(123,lX aU aIF)
theorem aGk:dK Go.Proofs.Tryz.prog Y8.1 Y8.2:=UY aU (MY (xl:=[]) .nil 4) fun l r v hs=>by
 have:∃ a b,l=[a,b]∧r=[]∧v=iv (XS a b):=by
  unfold aIF at hs;split at hs
  ·injection hs with hs;injection hs with _ h2;exact⟨_,_,rfl,rfl,h2.symm⟩
  ·cases hs
 obtain⟨a,b,rfl,rfl,rfl⟩:=this;refine⟨rfl,rfl,fun c=>?_⟩
 repeat' (conv=>whnf
          refine bm (fun h=>?_) (fun h=>?_))
 all_goals (conv=>whnf)
 all_goals (simp only [aA,aG,iv,XS] at *;simp at *)
 all_goals (try simp_all)
theorem WS (p:Int × Int):(p.1,p.2)=p:=rfl
def jS (a b:Int × Int):Int:=XS (gH a.1 b.1) (gH a.2 b.2)
def ZF:Nat × XF:=(113,gX (s2 cP cP fun a b=>(true,iv (jS a b))))
theorem aCG:dK Go.Proofs.Tryz.prog ZF.1 ZF.2:=x2 cP cP (xl:=[OU,Y8]) (.cons QD (.cons aGk .nil)) (fun _ _=>rfl) fun a b _=>by
 obtain⟨ax,ay⟩:=a;obtain⟨bx,b_y⟩:=b;unfold eZ
 conv=>whnf
 refine⟨[gH ax bx,gH ay b_y],⟨rfl,_,_,_,_,rfl,rfl⟩,?_⟩
 conv=>whnf
 rfl
def bH (s:Sg):(Int × Int) × (Int × Int):=if 0<jS s.1 s.2 then (s.2,s.1) else (s.1,s.2)
def X74:Nat × XF:=(157,gX (s1 cS fun s=>(true,.tuple #[SE (bH s).1,SE (bH s).2])))
theorem x74:dK Go.Proofs.Tryz.prog X74.1 X74.2:=x1 cS (xl:=[ZF]) (.cons aCG .nil) (fun _=>rfl) fun s _=>by
 obtain⟨⟨ax,ay⟩,⟨bx,b_y⟩⟩:=s;unfold eZ
 repeat' (conv=>whnf
          refine bm (fun h=>?_) (fun h=>?_))
 all_goals (conv=>whnf)
 all_goals (simp only [aA,aG,decide_eq_true_eq,decide_eq_false_iff_not] at h)
 ·simp [bH,h,SE,iv]
 ·simp [bH,h,SE,iv]
def GW (p:Int × Int)(s:Sg):Bool:=decide (jS (bH s).1 p≤0)&&decide (jS p (bH s).2≤0)
def aGm:Nat × XF:=(168,gX (s2 cP cS fun p s=>(true,.bool (GW p s))))
theorem aKd:dK Go.Proofs.Tryz.prog aGm.1 aGm.2:=x2 cP cS (xl:=[ZF,X74]) (.cons aCG (.cons x74 .nil)) (fun _ _=>rfl) fun p s _=>by
 obtain⟨px,py⟩:=p;obtain⟨⟨ax,ay⟩,⟨bx,b_y⟩⟩:=s;unfold eZ
 repeat' (conv=>whnf
          refine bm (fun h=>?_) (fun h=>?_))
 all_goals (conv=>whnf)
 all_goals (simp only [aA,aG,WS] at *;simp at h ⊢;simp [GW, *] <;> omega)
def uC (s:Sg):Bool:=wide s.1&&wide s.2
def onS (p:Int × Int)(s:Sg):Bool:=decide (aT s.1 s.2 p=0)&&GW p s
def X65:Nat × XF:=(140,gX (s2 cP cS fun p s=>(wide p&&uC s,.bool (onS p s))))
theorem x65:dK Go.Proofs.Tryz.prog X65.1 X65.2:=x2 cP cS (xl:=[X55,aGm]) (.cons x55 (.cons aKd .nil)) (fun _ _=>rfl) fun p s hp=>by
 obtain⟨px,py⟩:=p;obtain⟨⟨ax,ay⟩,⟨bx,b_y⟩⟩:=s;simp only [uC,Bool.and_eq_true] at hp;unfold eZ
 repeat' (conv=>whnf
          refine bm (fun h=>?_) (fun h=>?_))
 all_goals (conv=>whnf)
 all_goals (simp only [aA,aG,WS] at *;(try simp at h);(try simp);(try simp_all [onS]))
def jZ (a b:Int × Int):Bool:=decide (a.1=b.1)&&(decide (a.2=b.2)&&true)
def dJ (s:Sg):Bool:=aW s.1&&aW s.2&&!(jZ s.1 s.2)
def X64:Nat × XF:=(110,gX (s1 cS fun s=>(true,.bool (dJ s))))
theorem x64:dK Go.Proofs.Tryz.prog X64.1 X64.2:=x1 cS (xl:=[X58]) (.cons x58 .nil) (fun _=>rfl) fun s _=>by
 obtain⟨⟨ax,ay⟩,⟨bx,b_y⟩⟩:=s;unfold eZ
 repeat' (conv=>whnf
          refine bm (fun h=>?_) (fun h=>?_))
 all_goals (conv=>whnf)
 all_goals (simp [aA,aG,jZ] at *;simp [dJ,jZ, *])
def OnS (p:Int × Int)(s:Sg):Bool:=aW p&&dJ s&&onS p s
theorem A4 {s:Sg}(h:dJ s=true):uC s=true:=by
 simp only [dJ,uC,Bool.and_eq_true] at *;exact⟨nF h.1.1,nF h.1.2⟩
def X20:Nat × XF:=(91,gX (s2 cP cS fun p s=>(true,.bool (OnS p s))))
theorem x20:dK Go.Proofs.Tryz.prog X20.1 X20.2:=x2 cP cS (xl:=[X58,X64,X65]) (.cons x58 (.cons x64 (.cons x65 .nil))) (fun _ _=>rfl) fun p s hp=>by
 obtain⟨px,py⟩:=p;obtain⟨⟨ax,ay⟩,⟨bx,b_y⟩⟩:=s;unfold eZ
 repeat' (conv=>whnf
          refine bm (fun h=>?_) (fun h=>?_))
 all_goals (conv=>whnf)
 all_goals (simp [aA,aG] at *)
 all_goals first|(simp [OnS, *];done)|(simp_all [OnS,nF,A4];done)
theorem mI {α:Type}(E:El α)(l:List α){i k o:Nat}{v:Value}(hi:i<l.length)(hk:(E.fl l[i])[k]? = some v)(hks:k<E.sz)(ho:o=i*E.sz+k):nth (flat E.fl l) o=some v:=by
 subst ho;have h1:=JI E l i hi;rw [vP,← hk,← h1,List.getElem?_take_of_lt hks,List.getElem?_drop]
def mx (a b:Int):Int:=if a<b then b else a
theorem aFI (a b:Int):aA.A.add a b=a+b:=rfl
theorem aAf (a b:Int):aA.A.mul a b=a*b:=rfl
theorem ZK (a b:Int):aA.A.lt a b=decide (a<b):=rfl
theorem aI4 (a b:Int):aA.A.le a b=decide (a≤b):=rfl
theorem aB8 (a b:Int):aA.A.eq a b=decide (a=b):=rfl
theorem SU (k:IntKind)(a:Int):aA.A.fits k a=aK k a:=rfl
theorem aEO (a:Nat):aA.A.num a=(a:Int):=rfl
theorem aDm (a b:Bool):aA.A.andB a b=(a&&b):=rfl
theorem K3 (a:Bool):aA.A.notB a=!a:=rfl
theorem KR (a b:Bool):aA.A.eqB a b=(a == b):=rfl
def pZ (l:List (Int × Int))(i:Nat):Int × Int:=l.getD i (0,0)
theorem KF {l:List (Int × Int)}{i:Nat}(h:i<l.length):pZ l i=l[i]:=by
 unfold pZ;rw [List.getD_eq_getElem?_getD,List.getElem?_eq_getElem h];rfl
def IS (s t:Sg):Int × Int:=if jS (bH s).1 (bH t).1<0 then (bH t).1 else (bH s).1
def xO (s t:Sg):Int × Int:=if jS (bH t).2 (bH s).2<0 then (bH t).2 else (bH s).2
def aCv (o:Int):Int:=if o = -1 then 4 else if o=0 then 1 else 0
def L7 (a b c d:Int):Int :=
 if 0<a*b∨0<c*d then 0
 else if (c=0∨d=0)∧(a=0∨b=0) then 1
 else if (c=0∨d=0)∨(a=0∨b=0) then 2
 else 3
def kX (s t:Sg):Int :=
 if aT s.1 s.2 t.1=0∧aT s.1 s.2 t.2=0 then aCv (jS (IS s t) (xO s t))
 else L7 (aT s.1 s.2 t.1) (aT s.1 s.2 t.2) (aT t.1 t.2 s.1) (aT t.1 t.2 s.2)
def u8 (n:Int):Value:=.int .u8 n
theorem xW (a b:Int × Int):jS a b = -1∨jS a b=0∨jS a b=1:=by
 unfold jS XS gH;split <;> split <;> (try split) <;> (try split) <;> omega
theorem aCy {o:Int}(h:o = -1∨o=0∨o=1){k:Nat}(hk:k=(o+1).toNat):nth [u8 4,u8 1,u8 0] k=some (u8 (aCv o)):=by
 subst hk;rcases h with rfl|rfl|rfl <;> rfl
theorem aCT (a b:Int × Int):aA.A.fits .i64 (aA.A.add (jS a b) 1)=true:=by
 rcases xW a b with e|e|e <;> rw [e] <;> rfl
theorem aFj (a b:Int × Int):aA.A.andB (aA.A.le 0 (aA.A.add (jS a b) 1)) (aA.A.lt (aA.A.add (jS a b) 1) (aA.A.num 3))=true:=by
 rcases xW a b with e|e|e <;> rw [e] <;> rfl
def X68:Nat × XF:=(107,gX (s2 cS cS fun s t=>(uC s&&uC t,u8 (kX s t))))
theorem x68:dK Go.Proofs.Tryz.prog X68.1 X68.2:=x2 cS cS (xl:=[X55,X74,ZF]) (.cons x55 (.cons x74 (.cons aCG .nil))) (fun _ _=>rfl) fun s t hp=>by
 obtain⟨⟨ax,ay⟩,⟨bx,b2⟩⟩:=s;obtain⟨⟨cx,cy⟩,⟨dx,dy⟩⟩:=t;have l1:=xJ (ax,ay) (bx,b2) (cx,cy);have l2:=xJ (ax,ay) (bx,b2) (dx,dy);have l3:=xJ (cx,cy) (dx,dy) (ax,ay);have l4:=xJ (cx,cy) (dx,dy) (bx,b2);have m1:=GV (A:=1) (B:=1) l1.1 l1.2 l2.1 l2.2;have m2:=GV (A:=1) (B:=1) l3.1 l3.2 l4.1 l4.2;simp only [uC,Bool.and_eq_true] at hp;unfold eZ
 repeat' (conv=>whnf
          refine bm (fun h=>?_) (fun h=>?_))
 all_goals (try (refine lD (aCy (xW _ _) (by show 0+(_+1:Int).toNat*1=_;rw [Nat.zero_add,Nat.mul_one])) ?_))
 all_goals (try (conv=>whnf))
 all_goals (clear l3 l4)
 all_goals first
  |(show _=_
    simp only [aFI,aAf,ZK,aB8,SU,KR,aDm,K3,aI4,aEO,aK,WS,Bool.and_eq_true,beq_iff_eq,beq_eq_false_iff_ne,ne_eq,decide_eq_true_eq,decide_eq_false_iff_not,not_and,Bool.not_eq_true',Bool.not_eq_false'] at *;simp only [kX,L7,IS,xO]
    simp_all [u8,iv]
    done)
  |(show _=_
    simp only [ZK,aB8,KR,WS,beq_iff_eq,decide_eq_true_eq,decide_eq_false_iff_not] at *;simp only [kX,IS,xO, *,and_self,if_true,if_false]
    done)
  |(rw [aCT] at h;cases h)
  |(rw [aFj] at h;cases h)
  |(simp [hp] at h;done)
  |(simp only [aAf,SU,aK,WS,Bool.eq_false_iff,ne_eq,Bool.and_eq_true,decide_eq_true_eq] at h;omega)
  |skip
 trace_state
def YN (n a b:Int):Bool:=decide ((if b<a then b else a)≤n)&&decide (n≤(if a<b then b else a))
def wL (p:Int × Int)(s:Sg):Bool:=YN p.1 s.1.1 s.2.1&&YN p.2 s.1.2 s.2.2&&decide (aT s.1 s.2 p=0)
theorem wJ (a b:Int × Int):jS a b≤0↔a.1<b.1∨(a.1=b.1∧a.2≤b.2):=by
 unfold jS XS gH;split <;> split <;> (try split) <;> (try split) <;> omega
theorem lA (a b c:Int × Int):aT a b c=0↔aV a b c=0:=by
 unfold aT U5;split <;> (try split) <;> omega
theorem SC (p:Int × Int)(s:Sg)(h:dJ s=true):onS p s=wL p s:=by
 obtain⟨px,py⟩:=p;obtain⟨⟨ax,ay⟩,⟨bx,b2⟩⟩:=s;have hne:¬ (ax=bx∧ay=b2):=by
  simp only [dJ,jZ,Bool.and_eq_true,Bool.not_eq_true',Bool.and_true,Bool.and_eq_false_imp,decide_eq_true_eq,decide_eq_false_iff_not] at h;intro⟨e1,e2⟩;exact h.2 e1 e2
 clear h;unfold onS wL GW;by_cases hc:aT (ax,ay) (bx,b2) (px,py)=0
 ·have hcr:=(lA _ _ _).1 hc;simp only [aV] at hcr;rw [decide_eq_true hc,Bool.true_and,Bool.and_true,Bool.eq_iff_iff];simp only [YN,Bool.and_eq_true,decide_eq_true_eq,wJ];by_cases h1:ax<bx
  ·have he:bH ((ax,ay),(bx,b2))=((ax,ay),(bx,b2)):=by
    unfold bH;rw [if_neg];have:=(wJ (ax,ay) (bx,b2)).2 (.inl h1);simp only at *;omega
   rw [he];have hb:=SB (ax:=ax) (ay:=ay) (bx:=bx) (b2:=b2) (px:=px) (py:=py) (by omega) h1;simp only at *;rw [hb];omega
  ·by_cases h2:bx<ax
   ·have he:bH ((ax,ay),(bx,b2))=((bx,b2),(ax,ay)):=by
     unfold bH;rw [if_pos];have:=(wJ (ax,ay) (bx,b2));simp only at *;omega
    rw [he];have hsw:=Q5 (ax,ay) (bx,b2) (px,py);simp only [aV] at hsw;have hb:=SB (ax:=bx) (ay:=b2) (bx:=ax) (b2:=ay) (px:=px) (py:=py) (by omega) h2;simp only at *;rw [hb];omega
   ·have hx:ax=bx:=(by omega);subst hx;have hE:b2 - ay≠0:=(by omega);rw [Int.sub_self,Int.zero_mul] at hcr;have ht:px - ax=0:=ZM (D:=b2 - ay) (by omega) hE;have hpx:px=ax:=(by omega);subst hpx;by_cases h3:ay<b2
    ·have he:bH ((px,ay),(px,b2))=((px,ay),(px,b2)):=by
      unfold bH;rw [if_neg];have:=(wJ (px,ay) (px,b2)).2 (.inr ⟨rfl,by omega⟩);simp only at *;omega
     rw [he];have h4:¬ (b2<ay):=(by omega);simp only [Int.lt_irrefl,if_false,h3,h4,if_true];simp
    ·have he:bH ((px,ay),(px,b2))=((px,b2),(px,ay)):=by
      unfold bH;rw [if_pos];have:=(wJ (px,ay) (px,b2));simp only at *;omega
     rw [he];have h4:b2<ay:=(by omega);simp only [Int.lt_irrefl,if_false,h3,h4,if_true];simp
 ·simp [hc]
end Go.Aw
end

noncomputable section
namespace Go.Aw
open Go.RowKit
def j4:Option Int→Value→Value
 |none,v=>v
 |some e,v=>.tuple #[v,.int .i64 e]
section
variable {α:Type}(E:El α)
def fX (s:List Value→Option (Bool × List α × Option Int)):XF:=fun args h nx K=>match s args with
 |some p=>dI p.1 (match p.2.1 with
  |[]=>K (j4 p.2.2 (.slice none 0 0)) h nx
  |a::r=>K (j4 p.2.2 (.slice (some ⟨nx,0,none⟩) (a::r).length (a::r).length)) (cC h nx (.cells true false E.sz (flat E.fl (a::r)))) (nx+1))
 |none=>False
def Yields (l:List α)(e:Option Int):KE:=fun v h _=>match l with
 |[]=>v=j4 e (.slice none 0 0)
 |a::r=>∃ q,v=j4 e (.slice (some ⟨q,0,none⟩) (a::r).length (a::r).length)∧look h q=some (.cells true false E.sz (flat E.fl (a::r)))
theorem G8 {ρ:Nat→Nat}(e:Option Int){k n c:Nat}:iM ρ (j4 e (.slice (some ⟨k,0,none⟩) n c))=j4 e (.slice (some ⟨ρ k,0,none⟩) n c):=by
 cases e with
 |none=>rfl
 |some e=>simp [j4,iM,tr,dS,bQ,dU,j3]
theorem HG (e:Option Int):gT (j4 e (.slice none 0 0))=true:=by cases e <;> rfl
theorem YC (e:Option Int)(n c:Nat):BK 1 (j4 e (.slice (some ⟨0,0,none⟩) n c)):=by
 cases e with
 |none=>exact⟨Nat.one_pos,fun h=>by cases h⟩
 |some e =>
  intro v hv;simp at hv;rcases hv with rfl|rfl
  ·exact⟨Nat.one_pos,fun h=>by cases h⟩
  ·trivial
end
end Go.Aw
end
