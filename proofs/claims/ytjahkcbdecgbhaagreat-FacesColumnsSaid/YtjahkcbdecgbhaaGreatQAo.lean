/-
  Parts of a proof. No condition.
-/
import Derived.Test.YtjahkcbdecgbhaaGreatQAl
import Derived.Test.YtjahkcbdecgbhaaGreatQAn
import Derived.WalkKit
set_option linter.unusedSimpArgs false
set_option linter.unusedVariables false
noncomputable section
namespace Go.Aw
open Go.RowKit
theorem a8 {α:Type}{l:List (Nat × α)}{k:Nat}{o:α}(h:look l k=some o):(k,o)∈l:=by
 induction l with
 |nil=>exact bP h
 |cons x r ih =>
  obtain⟨j,q⟩:=x;rw [aD] at h;split at h
  ·rename_i hb;have:=beq_true hb;subst this;injection h with h;subst h;exact .head _
  ·exact .tail _ (ih h)
theorem bU {l:List Value}(h:eH l=true){v:Value}(hv:v∈l):gT v=true:=by
 induction l with
 |nil=>cases hv
 |cons x r ih =>
  simp only [eH,Bool.and_eq_true] at h;cases hv with
  |head =>
   have:=h.1;cases v <;> first|exact this|(simp [gA,gS] at this)
  |tail _ hm=>exact ih h.2 hm
theorem aBS {k o n c:Nat}{r:List Value}(hr:eH r=true){h:Heap}{nx:Nat}{wr g:Bool}{sz0:Nat}{cs:List Value}(hk:look h k=some (.cells wr g sz0 cs)){cs0:List Value}(hcs:(cs.drop o).take cs0.length=cs0)(hg:dF cs0=true)(g0:Bool)(sz:Nat)(hz:sz≠0) :
  In (.slice (some ⟨0,0,none⟩) n c::r) [(0,.cells false g0 sz cs0)] 1 (.slice (some ⟨k,o,none⟩) n c::r) h nx:=by
 intro ι B w H hs;have hx:k<nx∧((ι k).gQ=false→n=0∧c=0):=hs _ (.head _);have hmap:∀ ι1 ι2:Nat→Loc,r.map (tr ι1)=r.map (tr ι2):=fun ι1 ι2=>List.map_congr_left fun v hv=>(by rw [iA (bU hr hv),iA (bU hr hv)]);have hsc:∀ ι0:Nat→Loc,∀ v∈r,eT ι0 1 v:=fun ι0 v hv=>dE (bU hr hv);have ho:=H.obj k _ hk;cases hι:ι k with
 |nil p =>
  rw [hι] at ho;have hnil:cs=[]:=(by cases wr <;> exact ho.1);subst hnil;have h0:cs0=[]:=(by rw [← hcs];simp);subst h0;refine⟨fun _=>.nil p,?_,?_,⟨?_,?_,?_,Nat.le_refl _,?_⟩⟩
  ·rw [List.map_cons,List.map_cons,hmap ι];congr 1;simp [tr,dT,bT,dU,hι]
  ·intro v hv;cases hv with
   |head=>exact⟨Nat.one_pos,fun _=>hx.2 (by rw [hι];rfl)⟩
   |tail _ hm=>exact hsc _ v hm
  ·intro j q hq;rw [aD] at hq;split at hq
   ·injection hq with hq;subst hq;exact⟨rfl,fun h=>h.elim (fun h=>absurd h hz) (fun h=>by cases h)⟩
   ·exact bP hq
  ·intro j j' q q' hq hq' hne ha b hb;cases hb
  ·intro j q hq;rw [aD] at hq;split at hq
   ·rename_i hb;rw [← beq_true hb];exact Nat.one_pos
   ·exact bP hq
  ·intro j q hq;rw [aD] at hq;split at hq
   ·injection hq with hq;subst hq;intro v hv;cases hv
   ·exact bP hq
 |lay b off e =>
  have hlt:b<w.heap.size:=ho.lt (by rw [hι];rfl);refine⟨fun _=>.lay b (off+o) e,?_,?_,⟨?_,?_,?_,Nat.le_refl _,?_⟩⟩
  ·rw [List.map_cons,List.map_cons,hmap ι];congr 1;simp [tr,dT,bT,dU,hι]
  ·intro v hv;cases hv with
   |head=>exact⟨Nat.one_pos,fun h=>by cases h⟩
   |tail _ hm=>exact hsc _ v hm
  ·intro j q hq;rw [aD] at hq;split at hq
   ·injection hq with hq;subst hq;refine⟨hlt,fun _=>hg,fun i v hv=>?_⟩;have hv2:cs[o+i]? = some v:=by
     rw [← hcs] at hv;rw [List.getElem?_take] at hv;split at hv
     ·rw [List.getElem?_drop] at hv;exact hv
     ·cases hv
    obtain⟨b',off',e',hι',hc⟩:=H.cell hk hv2;rw [hι] at hι';injection hι' with e1 e2 e3;subst e1;subst e2;have hgv:=a9 hg (List.mem_of_getElem? hv);rw [Nat.add_assoc,hc,lT hgv,lT hgv]
   ·exact bP hq
  ·intro j j' q q' hq hq' hne ha b hb;rw [aD] at hq hq';split at hq
   ·rename_i hb1;split at hq'
    ·rename_i hb2;exact absurd ((beq_true hb1).symm.trans (beq_true hb2)) hne
    ·exact bP hq'
   ·exact bP hq
  ·intro j q hq;rw [aD] at hq;split at hq
   ·rename_i hb;rw [← beq_true hb];exact Nat.one_pos
   ·exact bP hq
  ·intro j q hq;rw [aD] at hq;split at hq
   ·injection hq with hq;subst hq;exact fun v hv=>cG (a9 hg hv)
   ·exact bP hq
end Go.Aw
end

noncomputable section
namespace Go.Aw
def ltF:Int→Int→Bool
 |.ofNat m,.ofNat n=>Nat.blt m n
 |.ofNat _,.negSucc _=>false
 |.negSucc _,.ofNat _=>true
 |.negSucc m,.negSucc n=>Nat.blt n m
def leF:Int→Int→Bool
 |.ofNat m,.ofNat n=>Nat.ble m n
 |.ofNat _,.negSucc _=>false
 |.negSucc _,.ofNat _=>true
 |.negSucc m,.negSucc n=>Nat.ble n m
def eqF:Int→Int→Bool
 |.ofNat m,.ofNat n=>Nat.beq m n
 |.ofNat _,.negSucc _=>false
 |.negSucc _,.ofNat _=>false
 |.negSucc m,.negSucc n=>Nat.beq m n
def VD:IntKind→Int→Bool
 |.i64,.ofNat m=>Nat.ble m 9223372036854775807
 |.i64,.negSucc m=>Nat.ble m 9223372036854775807
 |k,n=>aH k n
theorem aD1 (m n:Nat):Nat.blt m n=decide (m<n):=by
 cases h:Nat.blt m n with
 |true=>exact (decide_eq_true (qD h)).symm
 |false =>
  refine (decide_eq_false fun hl=>?_).symm;have:Nat.blt m n=true:=Nat.ble_eq_true_of_le hl;rw [h] at this;cases this
theorem TF (m n:Nat):Nat.ble m n=decide (m≤n):=by
 cases h:Nat.ble m n with
 |true=>exact (decide_eq_true (Nat.le_of_ble_eq_true h)).symm
 |false =>
  refine (decide_eq_false fun hl=>?_).symm;have:Nat.ble m n=true:=Nat.ble_eq_true_of_le hl;rw [h] at this;cases this
theorem aDb (m n:Nat):Nat.beq m n=decide (m=n):=by
 cases h:Nat.beq m n with
 |true=>exact (decide_eq_true (beq_true h)).symm
 |false=>exact (decide_eq_false (beq_false h)).symm
theorem aFt (a b:Int):ltF a b=decide (a<b):=by
 rw [Bool.eq_iff_iff];cases a <;> cases b <;> simp only [ltF,aD1,decide_eq_true_eq,Int.ofNat_eq_natCast,Int.negSucc_eq,Bool.false_eq_true,false_iff,true_iff] <;> omega
theorem aGb (a b:Int):leF a b=decide (a≤b):=by
 rw [Bool.eq_iff_iff];cases a <;> cases b <;> simp only [leF,TF,decide_eq_true_eq,Int.ofNat_eq_natCast,Int.negSucc_eq,Bool.false_eq_true,false_iff,true_iff] <;> omega
theorem aFP (a b:Int):eqF a b=decide (a=b):=by
 rw [Bool.eq_iff_iff];cases a <;> cases b <;> simp only [eqF,aDb,decide_eq_true_eq,Int.ofNat_eq_natCast,Int.negSucc_eq,Bool.false_eq_true,false_iff,true_iff] <;> omega
theorem aBx (k:IntKind)(n:Int):VD k n=aH k n:=by
 cases k <;> try rfl
 rw [Bool.eq_iff_iff];cases n <;> simp only [VD,aH,TF,Bool.and_eq_true,decide_eq_true_eq,Int.ofNat_eq_natCast,Int.negSucc_eq] <;> omega
def TP:Ar:={ aC with
 add:=Int.add,sub:=Int.sub,mul:=Int.mul
 lt:=ltF,le:=leF,eq:=eqF,fits:=VD
 ix:=fun o i s=>Nat.add o (Nat.mul i.toNat s)
 num:=Int.ofNat,toN:=Int.toNat,subN:=Nat.sub }
theorem ZS:TP=aC:=by
 unfold TP
 rw [show ltF=aC.lt from funext fun a=>funext fun b=>aFt a b,show leF=aC.le from funext fun a=>funext fun b=>aGb a b,
  show eqF=aC.eq from funext fun a=>funext fun b=>aFP a b,show VD=aC.fits from funext fun a=>funext fun b=>aBx a b]
 rfl
def aLY:CM:={ A:=TP,T:=tyT,FT:=look ftL,PL:=plF,PR:=fun _=>false,X:=fun _=>none,M:=1000 }
theorem TH:∀ {l:List (Nat × Func)} {f:Nat} {fn:Func},GV l=true→(f,fn)∈l→fnB f fn=true
 |[],_,_,_,h=>by cases h
 |(g,gn)::r,f,fn,hb,h=>by
  simp only [GV,Bool.and_eq_true] at hb;cases h with
  |head=>exact hb.1
  |tail _ hm=>exact TH hb.2 hm
theorem O5 (f : Nat)(fn : Func)(h : look ftL f = some fn) : Go.Proofs.Tryz.prog.funcs[f]? = some fn ∧ (fn.name == "runtime.NumGoroutine") = false ∧ ∀ b, fn.body = some b → dY (plF f) b = true := by
 have hm:=a8 h;have hb:=TH aHE hm;unfold fnB at hb;simp only [Bool.and_eq_true,Bool.not_eq_true'] at hb;have h1:Go.Proofs.Tryz.prog.funcs[(f,fn).1]? = some (f,fn).2:=aHj (f,fn) hm;refine⟨h1,hb.1,?_⟩;have h2:=hb.2;generalize plF f=Φ at h2 ⊢;intro b he;simp only [he] at h2;exact h2
theorem FY (X:Nat→Option (List Value→Heap→Nat→KE→Prop))(hX:∀ f x,X f=some x→cO Go.Proofs.Tryz.prog f x)(PR:Nat→Bool)(M:Nat):pU Go.Proofs.Tryz.prog { A:=TP,T:=tyT,FT:=look ftL,PL:=plF,PR:=PR,X:=X,M:=M } where
 ar:=ZS
 tab:=LS aBv
 mixed:=by decide +kernel
 funcs:=O5
 xs:=hX
def iv (n:Int):Value:=.int .i64 n
def pt (x y:Int):Value:=.agg #[iv x,iv y]
end Go.Aw
end

noncomputable section
namespace Go.Aw
open Go.RowKit
theorem bm {b:Bool}{X Y:Prop}(h1:b=true→X)(h2:b=false→Y):(match (generalizing:=false) b with|true=>X|false=>Y):=by
 cases b
 ·exact h2 rfl
 ·exact h1 rfl
theorem oA {x:Option (List Value)}{v:List Value}{G:List Value→Prop}(h:x=some v)(k:G v):(match (generalizing:=false) x with|some v=>G v|none=>False):=by
 subst h;exact k
theorem iB {x:Option Value}{v:Value}{G:Value→Prop}(h:x=some v)(k:G v):(match (generalizing:=false) x with|some v=>G v|none=>False):=by
 subst h;exact k
abbrev XF:=List Value→Heap→Nat→KE→Prop
def CX (X:Nat→Option XF):VC:=fun f args h nx K=>match X f with|some x=>x args h nx K|none=>False
def noY:VY:=fun _ _ _ _ _=>False
theorem S6 {P:Program}{X:Nat→Option XF}(hX:∀ f x,X f=some x→cO P f x):bG P (CX X):=by
 intro f args h nx K hl ι B w H hs;unfold CX at hl;split at hl
 ·rename_i x hx;exact (hX f x hx).1 args h nx K hl ι B w H hs
 ·exact hl.elim
theorem KL {P:Program}{X:Nat→Option XF}(hX:∀ f x,X f=some x→cO P f x):dW (CX X):=by
 intro f args h nx K hl;unfold CX at hl;split at hl
 ·rename_i x hx;obtain⟨v,h',nx',k1,k2⟩:=(hX f x hx).2 args h nx K hl;exact⟨v,h',nx',k1,fun K' hk=>by unfold CX;rw [hx];exact k2 K' hk⟩
 ·exact hl.elim
theorem QA {P:Program}:eJ P noY:=fun _ _ _ _ _ hl=>hl.elim
theorem DK:dW noY:=fun _ _ _ _ _ hl=>hl.elim
theorem cO.mono {P:Program}{f:Nat}{x x':XF}(h:cO P f x)(hm:∀ args h nx K,x' args h nx K→x args h nx K)(hd:∀ args h nx,fD (x' args h nx)):cO P f x' :=
 ⟨fun args hh nx K hx=>h.1 args hh nx K (hm _ _ _ _ hx),hd⟩
def gX (s:List Value→Option (Bool × Value)):XF:=fun args h nx K=>match s args with|some p=>dK p.1 (K p.2 h nx)|none=>False
theorem lD (h:Heap):app h []=h:=by
 induction h with
 |nil=>rfl
 |cons x r ih=>simp only [app,ih]
theorem vM {P:Program}{C:VC}{f:Nat}{s:List Value→Option (Bool × Value)}(hC:bG P C)
  (hs:∀ args v,s args=some (true,v)→eH args=true∧gT v=true∧C f args [] 0 (fun u _ _=>u=v)):cO P f (gX s):=by
 refine (gC (S:=fun args0 h0 n0 v1 h1 m=>s args0=some (true,v1)∧h0=[]∧n0=0∧h1=[]∧m=0) hC ?_).mono ?_ ?_
 ·rintro args0 h0 n0 v1 h1 m ⟨e1,rfl,rfl,rfl,rfl⟩;obtain⟨a1,a2,a3⟩:=hs args0 v1 e1;refine⟨rfl,?_⟩;exact⟨_,a3,fun v h nx e=>by rw [e];exact kH a2⟩
 ·intro args h nx K hx;unfold gX at hx;split at hx
  ·rename_i p e1;obtain⟨b,v⟩:=p;obtain⟨rfl,hx⟩:=aG.1 hx;obtain⟨a1,a2,a3⟩:=hs args v e1;refine⟨args,[],0,v,[],0,⟨e1,rfl,rfl,rfl,rfl⟩,aFz fun u hu=>bU a1 hu,?_⟩;simp only [o5,sL,mU,lD,m0 a2,Nat.add_zero];exact hx
  ·exact hx.elim
 ·intro args h nx K hx;unfold gX at hx;split at hx
  ·rename_i p e1;obtain⟨hb,hx⟩:=aG.1 hx;exact⟨p.2,h,nx,hx,fun K' hk=>by unfold gX;rw [e1];exact aJ hb hk⟩
  ·exact hx.elim
theorem aN {ρ:Nat→Nat}{n sz:Nat}{wr g:Bool}{cs:List Value}(hg:dF cs=true):bX ρ n (.cells wr g sz cs) (.cells wr g sz cs) :=
 ⟨rfl,rfl,rfl,(bL hg).symm,fun v hv=>cG (a9 hg hv)⟩
theorem aK {b n0 nx:Nat}{I:KS}{e0 e:List (Nat × Value)}{h0 h:Heap}(hI:I e0 h0 n0)(he:∀ p∈e0,look e p.1=some (gP id p.2)∧xD n0 p.2)
  (hh:∀ p∈h0,p.1<n0∧∃ o',look h (id p.1)=some o'∧bX id n0 p.2 o') (hb:b≤n0):qU b I e h nx :=
 ⟨e0,h0,n0,id,hI,fun t v hv=>he (t,v) (a8 hv),fun k o hk=>hh (k,o) (a8 hk),fun k k' o o' _ _ e=>e,fun k _=>rfl,hb⟩
def flat {α:Type}(fl:α→List Value):List α→List Value
 |[]=>[]
 |a::r=>fl a++flat fl r
structure El (α:Type) where
 fl:α→List Value
 sz:Nat
 len:∀ a,(fl a).length=sz
 gr:∀ a,dF (fl a)=true
 pos:sz≠0:=by decide
section
variable {α:Type}(E:El α)
theorem bE (l:List α):(flat E.fl l).length=l.length*E.sz:=by
 induction l with
 |nil=>simp [flat]
 |cons a r ih=>simp only [flat,List.length_append,E.len,ih,List.length_cons,Nat.succ_mul];omega
theorem aF (l:List α):dF (flat E.fl l)=true:=by
 induction l with
 |nil=>rfl
 |cons a r ih=>simp only [flat,MW,E.gr,ih,Bool.and_self]
theorem aCw {l:List Value}{o n:Nat}(h:o+n≤l.length):nO l o n=some ((l.drop o).take n):=by
 induction n generalizing o with
 |zero=>simp [nO]
 |succ n ih =>
  have hlt:o<l.length:=(by omega);simp only [nO,v7,List.getElem?_eq_getElem hlt,ih (o:=o+1) (by omega)];congr 1;rw [List.drop_eq_getElem_cons hlt];rfl
theorem L8 (l:List α)(i:Nat)(hi:i<l.length):((flat E.fl l).drop (i*E.sz)).take E.sz=E.fl l[i]:=by
 induction l generalizing i with
 |nil=>simp at hi
 |cons a r ih =>
  cases i with
  |zero =>
   simp only [flat,Nat.zero_mul,List.drop_zero,List.getElem_cons_zero];rw [List.take_append_of_le_length (by rw [E.len];exact Nat.le_refl _),List.take_of_length_le (by rw [E.len];exact Nat.le_refl _)]
  |succ i =>
   have hl:(fl:List Value)→True:=fun _=>trivial;simp only [flat,List.getElem_cons_succ];rw [show (i+1)*E.sz=(E.fl a).length+i*E.sz by rw [E.len,Nat.succ_mul];omega,List.drop_append,Nat.add_sub_cancel_left,List.drop_eq_nil_of_le (by omega),List.nil_append];exact ih i (by simpa using hi)
theorem y5 (l:List α){i o:Nat}(hi:i<l.length)(ho:o=i*E.sz):nO (flat E.fl l) o E.sz=some (E.fl l[i]):=by
 subst ho;have h1:(i+1)*E.sz≤l.length*E.sz:=Nat.mul_le_mul_right _ hi;rw [aCw (by rw [bE];rw [Nat.succ_mul] at h1;exact h1),L8 E l i hi]
def gZ (h:Heap)(v:Value)(l:List α):Prop :=
 match v with
 |.slice none n c=>n=0∧c=0∧l=[]
 |.slice (some ⟨k,o,none⟩) n _=>n=l.length∧∃ wr g sz cs,look h k=some (.cells wr g sz cs)∧(cs.drop o).take (flat E.fl l).length=flat E.fl l
 |_=>False
def lX (s:List α→List Value→Option (Bool × Value)):XF:=fun args h nx K=>match args with
 |v::r=>∃ l,gZ E h v l∧(match s l r with|some p=>dK p.1 (K p.2 h nx)|none=>False)
 |_=>False
theorem RH {r:List Value}(hr:eH r=true){h:Heap}{nx:Nat}(g0:Bool)(sz:Nat)(hz:sz≠0):In (.slice (some ⟨0,0,none⟩) 0 0::r) [(0,.cells false g0 sz [])] 1 (.slice none 0 0::r) h nx:=by
 intro ι B w H hs;have hmap:∀ ι1 ι2:Nat→Loc,r.map (tr ι1)=r.map (tr ι2):=fun ι1 ι2=>List.map_congr_left fun v hv=>(by rw [iA (bU hr hv),iA (bU hr hv)]);refine⟨fun _=>.nil none,?_,?_,⟨?_,?_,?_,Nat.le_refl _,?_⟩⟩
 ·rw [List.map_cons,List.map_cons,hmap ι];rfl
 ·intro v hv;cases hv with
  |head=>exact⟨Nat.one_pos,fun _=>⟨rfl,rfl⟩⟩
  |tail _ hm=>exact dE (bU hr hm)
 ·intro j q hq;rw [aD] at hq;split at hq
  ·injection hq with hq;subst hq;exact⟨rfl,fun h=>h.elim (fun h=>absurd h hz) (fun h=>by cases h)⟩
  ·exact bP hq
 ·intro j j' q q' hq hq' hne ha b hb;cases hb
 ·intro j q hq;rw [aD] at hq;split at hq
  ·rename_i hb;rw [← beq_true hb];exact Nat.one_pos
  ·exact bP hq
 ·intro j q hq;rw [aD] at hq;split at hq
  ·injection hq with hq;subst hq;intro v hv;cases hv
  ·exact bP hq
theorem SR {P:Program}{C:VC}{f:Nat}{s:List α→List Value→Option (Bool × Value)}(hC:bG P C)
  (hs:∀ l r v,s l r=some (true,v)→eH r=true∧gT v=true∧∀ c,C f (.slice (some ⟨0,0,none⟩) l.length c::r) [(0,.cells false true E.sz (flat E.fl l))] 1 (fun u _ _=>u=v)):cO P f (lX E s):=by
 refine (gC (S:=fun args0 h0 n0 v1 h1 m=>∃ l r c,s l r=some (true,v1)∧args0=.slice (some ⟨0,0,none⟩) l.length c::r∧h0=[(0,.cells false true E.sz (flat E.fl l))]∧n0=1∧h1=[]∧m=0) hC ?_).mono ?_ ?_
 ·rintro args0 h0 n0 v1 h1 m ⟨l,r,c,e1,rfl,rfl,rfl,rfl,rfl⟩;obtain⟨a1,a2,a3⟩:=hs l r v1 e1;exact⟨rfl,_,a3 c,fun v h nx e=>by rw [e];exact kH a2⟩
 ·intro args h nx K hx;unfold lX at hx;split at hx
  case h_2=>exact hx.elim
  rename_i v r;obtain⟨l,hl,hx⟩:=hx;split at hx
  case h_2=>exact hx.elim
  rename_i p e1;obtain⟨b,u⟩:=p;obtain⟨rfl,hx⟩:=aG.1 hx;obtain⟨a1,a2,a3⟩:=hs l r u e1;have hK:K (gP (fun k=>nx+k) u) (app (mU nx []) (o5 [] h)) (nx+0):=by
   simp only [o5,sL,mU,lD,m0 a2,Nat.add_zero];exact hx
  unfold gZ at hl;split at hl
  ·rename_i n c;obtain⟨rfl,rfl,rfl⟩:=hl;exact⟨_,_,1,u,[],0,⟨[],r,0,e1,rfl,rfl,rfl,rfl,rfl⟩,RH a1 true E.sz E.pos,hK⟩
  ·rename_i k o n c;obtain⟨rfl,wr,g,sz,cs,hk,hcs⟩:=hl;exact⟨_,_,1,u,[],0,⟨l,r,c,e1,rfl,rfl,rfl,rfl,rfl⟩,aBS a1 hk hcs (aF E l) true E.sz E.pos,hK⟩
  ·exact hl.elim
 ·intro args h nx K hx;unfold lX at hx;split at hx
  case h_2=>exact hx.elim
  rename_i v r;obtain⟨l,hl,hx⟩:=hx;split at hx
  case h_2=>exact hx.elim
  rename_i p e1;obtain⟨hb,hx⟩:=aG.1 hx;exact⟨p.2,h,nx,hx,fun K' hk=>⟨l,hl,by rw [e1];exact aJ hb hk⟩⟩
end
end Go.Aw
end

noncomputable section
namespace Go.Aw
def aA:CM:={ A:=aC,T:=tyT,FT:=look ftL,PL:=plF,PR:=fun _=>false,X:=fun _=>none,M:=0 }
theorem gE:pU Go.Proofs.Tryz.prog aA where
 ar:=rfl
 tab:=LS aBv
 mixed:=by decide +kernel
 funcs:=O5
 xs:=fun _ _ h=>by cases h
def body (xl:List (Nat × XF)):VC:=sN aA none (CX (look xl)) noY
def kM (xl:List (Nat × XF)):Prop:=∀ p∈xl,cO Go.Proofs.Tryz.prog p.1 p.2
theorem kM.nil:kM []:=fun _ h=>by cases h
theorem kM.cons {f:Nat}{x:XF}{l:List (Nat × XF)}(h:cO Go.Proofs.Tryz.prog f x)(hl:kM l):kM ((f,x)::l):=List.forall_mem_cons.2 ⟨h,hl⟩
theorem kM.look {xl:List (Nat × XF)}(h:kM xl)(f:Nat)(x:XF)(hx:look xl f=some x):cO Go.Proofs.Tryz.prog f x:=h (f,x) (a8 hx)
theorem aL {xl:List (Nat × XF)}(h:kM xl):bG Go.Proofs.Tryz.prog (body xl):=x6 gE (S6 h.look) QA (KL h.look) DK none
def S8 (p:Int × Int):Value:=.agg #[iv p.1,iv p.2]
def XI:Value→Option Int
 |.int .i64 n=>some n
 |_=>none
def SA:Value→Option (Int × Int)
 |.agg ⟨[.int .i64 x,.int .i64 y]⟩=>some (x,y)
 |_=>none
theorem CU {v:Value}{n:Int}(h:XI v=some n):v=iv n:=by
 unfold XI at h;split at h
 ·injection h with h;subst h;rfl
 ·cases h
theorem xY {v:Value}{p:Int × Int}(h:SA v=some p):v=S8 p:=by
 unfold SA at h;split at h
 ·injection h with h;subst h;rfl
 ·cases h
def s1P (F:Int × Int→Bool × Value):List Value→Option (Bool × Value)
 |[a]=>(match SA a with|some p=>some (F p)|none=>none)
 |_=>none
theorem aE1 {F:Int × Int→Bool × Value}{args:List Value}{r:Bool × Value}(h:s1P F args=some r):∃ p,args=[S8 p]∧F p=r:=by
 unfold s1P at h;split at h
 ·split at h
  ·rename_i p e;injection h with h;exact⟨p,by rw [xY e],h⟩
  ·cases h
 ·cases h
def s3P (F:Int × Int→Int × Int→Int × Int→Bool × Value):List Value→Option (Bool × Value)
 |[a,b,c]=>(match SA a with|some p=>(match SA b with|some q=>(match SA c with|some r=>some (F p q r)|none=>none)|none=>none)|none=>none)
 |_=>none
theorem aDj {F:Int × Int→Int × Int→Int × Int→Bool × Value}{args:List Value}{r:Bool × Value}(h:s3P F args=some r):∃ p q s,args=[S8 p,S8 q,S8 s]∧F p q s=r:=by
 unfold s3P at h;split at h
 ·split at h
  ·rename_i p e;split at h
   ·rename_i q e2;split at h
    ·rename_i s e3;injection h with h;exact⟨p,q,s,by rw [xY e,xY e2,xY e3],h⟩
    ·cases h
   ·cases h
  ·cases h
 ·cases h
def s1I (F:Int→Bool × Value):List Value→Option (Bool × Value)
 |[a]=>(match XI a with|some p=>some (F p)|none=>none)
 |_=>none
theorem aDw {F:Int→Bool × Value}{args:List Value}{r:Bool × Value}(h:s1I F args=some r):∃ p,args=[iv p]∧F p=r:=by
 unfold s1I at h;split at h
 ·split at h
  ·rename_i p e;injection h with h;exact⟨p,by rw [CU e],h⟩
  ·cases h
 ·cases h
def s2I (F:Int→Int→Bool × Value):List Value→Option (Bool × Value)
 |[a,b]=>(match XI a with|some p=>(match XI b with|some q=>some (F p q)|none=>none)|none=>none)
 |_=>none
theorem aEl {F:Int→Int→Bool × Value}{args:List Value}{r:Bool × Value}(h:s2I F args=some r):∃ p q,args=[iv p,iv q]∧F p q=r:=by
 unfold s2I at h;split at h
 ·split at h
  ·rename_i p e;split at h
   ·rename_i q e2;injection h with h;exact⟨p,q,by rw [CU e,CU e2],h⟩
   ·cases h
  ·cases h
 ·cases h
def cV (xl:List (Nat × XF))(f:Nat)(args:List Value)(v:Value):Prop:=body xl f args [] 0 (fun u _ _=>u=v)
theorem x1P {xl:List (Nat × XF)}(hx:kM xl){f:Nat}{F:Int × Int→Bool × Value}(hg:∀ p,gT (F p).2=true)(h:∀ p,(F p).1=true→cV xl f [S8 p] (F p).2):cO Go.Proofs.Tryz.prog f (gX (s1P F)) :=
 vM (aL hx) fun args v hs=>by
  obtain⟨p,rfl,e⟩:=aE1 hs;have h1:(F p).1=true:=(by rw [e]);have h2:(F p).2=v:=(by rw [e]);subst h2;exact⟨rfl,hg p,h p h1⟩
theorem x3P {xl:List (Nat × XF)}(hx:kM xl){f:Nat}{F:Int × Int→Int × Int→Int × Int→Bool × Value}(hg:∀ p q r,gT (F p q r).2=true)(h:∀ p q r,(F p q r).1=true→cV xl f [S8 p,S8 q,S8 r] (F p q r).2):cO Go.Proofs.Tryz.prog f (gX (s3P F)) :=
 vM (aL hx) fun args v hs=>by
  obtain⟨p,q,r,rfl,e⟩:=aDj hs;have h1:(F p q r).1=true:=(by rw [e]);have h2:(F p q r).2=v:=(by rw [e]);subst h2;exact⟨rfl,hg p q r,h p q r h1⟩
theorem x1I {xl:List (Nat × XF)}(hx:kM xl){f:Nat}{F:Int→Bool × Value}(hg:∀ p,gT (F p).2=true)(h:∀ p,(F p).1=true→cV xl f [iv p] (F p).2):cO Go.Proofs.Tryz.prog f (gX (s1I F)) :=
 vM (aL hx) fun args v hs=>by
  obtain⟨p,rfl,e⟩:=aDw hs;have h1:(F p).1=true:=(by rw [e]);have h2:(F p).2=v:=(by rw [e]);subst h2;exact⟨rfl,hg p,h p h1⟩
theorem x2I {xl:List (Nat × XF)}(hx:kM xl){f:Nat}{F:Int→Int→Bool × Value}(hg:∀ p q,gT (F p q).2=true)(h:∀ p q,(F p q).1=true→cV xl f [iv p,iv q] (F p q).2):cO Go.Proofs.Tryz.prog f (gX (s2I F)) :=
 vM (aL hx) fun args v hs=>by
  obtain⟨p,q,rfl,e⟩:=aEl hs;have h1:(F p q).1=true:=(by rw [e]);have h2:(F p q).2=v:=(by rw [e]);subst h2;exact⟨rfl,hg p q,h p q h1⟩
def aQ:El (Int × Int):=⟨fun p=>[iv p.1,iv p.2],2,fun _=>rfl,fun _=>rfl,by decide⟩
def aZ (p:Int × Int):Bool:=decide (0≤p.1)&&decide (p.1≤10000)&&decide (0≤p.2)&&decide (p.2≤10000)
def wide (p:Int × Int):Bool:=decide (-1000000≤p.1)&&decide (p.1≤1000000)&&decide (-1000000≤p.2)&&decide (p.2≤1000000)
def bA (a b c:Int × Int):Int:=(b.1 - a.1)*(c.2 - a.2) - (b.2 - a.2)*(c.1 - a.1)
def GX (n:Int):Int:=if n<0 then -1 else if 0<n then 1 else 0
def gH (a b:Int):Int:=if a<b then -1 else if b<a then 1 else 0
def bB (a b c:Int × Int):Int:=GX (bA a b c)
set_option maxRecDepth 100000
def X58:Nat × XF:=(185,gX (s1P fun p=>(true,.bool (aZ p))))
theorem x58:cO Go.Proofs.Tryz.prog X58.1 X58.2:=x1P .nil (fun _=>rfl) fun p _=>by
 obtain⟨x,y⟩:=p;unfold cV
 repeat' (conv=>whnf
          refine bm (fun h=>?_) (fun h=>?_))
 all_goals (conv=>whnf)
 all_goals (simp [aA,aC] at *;simp [aZ, *] <;> omega)
theorem qE {a b A B:Int}(h1 : -A≤a)(h2:a≤A)(h3 : -B≤b)(h4:b≤B) : -(A*B)≤a*b∧a*b≤A*B:=by
 have e1:=Int.mul_nonneg (show 0≤A - a by omega) (show 0≤B+b by omega);have e2:=Int.mul_nonneg (show 0≤A+a by omega) (show 0≤B - b by omega);have e3:=Int.mul_nonneg (show 0≤A - a by omega) (show 0≤B - b by omega);have e4:=Int.mul_nonneg (show 0≤A+a by omega) (show 0≤B+b by omega);simp only [Int.sub_mul,Int.mul_sub,Int.add_mul,Int.mul_add] at e1 e2 e3 e4;omega
set_option maxRecDepth 100000
def X56:Nat × XF:=(219,gX (s1P fun p=>(true,.bool (aZ p))))
theorem x56:cO Go.Proofs.Tryz.prog X56.1 X56.2:=x1P .nil (fun _=>rfl) fun p _=>by
 obtain⟨x,y⟩:=p;unfold cV
 repeat' (conv=>whnf
          refine bm (fun h=>?_) (fun h=>?_))
 all_goals (conv=>whnf)
 all_goals (simp [aA,aC] at *;simp [aZ, *] <;> omega)
def aGR:Nat × XF:=(221,gX (s1I fun p=>(true,.bool false)))
theorem aKs:cO Go.Proofs.Tryz.prog aGR.1 aGR.2:=x1I .nil (fun _=>rfl) fun p _=>by
 unfold cV
 repeat' (conv=>whnf
          refine bm (fun h=>?_) (fun h=>?_))
 all_goals (conv=>whnf)
 all_goals (simp [aA,aC] at *)
def O8:Nat × XF:=(179,gX (s2I fun p q=>(true,iv (gH p q))))
theorem RV:cO Go.Proofs.Tryz.prog O8.1 O8.2:=x2I (xl:=[aGR]) (.cons aKs .nil) (fun _ _=>rfl) fun p q _=>by
 unfold cV
 repeat' (conv=>whnf
          refine bm (fun h=>?_) (fun h=>?_))
 all_goals (conv=>whnf)
 all_goals (simp [aA,aC] at *;simp [gH,iv] <;> omega)
def aGQ:Nat × XF:=(268,gX (s1I fun p=>(true,iv (GX p))))
theorem aL8:cO Go.Proofs.Tryz.prog aGQ.1 aGQ.2:=x1I .nil (fun _=>rfl) fun p _=>by
 unfold cV
 repeat' (conv=>whnf
          refine bm (fun h=>?_) (fun h=>?_))
 all_goals (conv=>whnf)
 all_goals (simp [aA,aC] at *;simp [GX,iv] <;> omega)
def aGn:Nat × XF:=(249,gX (s3P fun a b c=>(wide a&&wide b&&wide c,iv (bA a b c))))
theorem aLC:cO Go.Proofs.Tryz.prog aGn.1 aGn.2:=x3P .nil (fun _ _ _=>rfl) fun a b c hp=>by
 obtain⟨ax,ay⟩:=a;obtain⟨bx,b_y⟩:=b;obtain⟨cx,cy⟩:=c;simp only [wide,Bool.and_eq_true,decide_eq_true_eq] at hp;have m1:=qE (a:=bx - ax) (b:=cy - ay) (A:=2000000) (B:=2000000) (by omega) (by omega) (by omega) (by omega);have m2:=qE (a:=b_y - ay) (b:=cx - ax) (A:=2000000) (B:=2000000) (by omega) (by omega) (by omega) (by omega);unfold cV
 repeat' (conv=>whnf
          refine bm (fun h=>?_) (fun h=>?_))
 all_goals (conv=>whnf)
 all_goals (simp [aA,aC,aH] at *)
 all_goals first|omega|simp [bA,iv]
def X55:Nat × XF:=(224,gX (s3P fun a b c=>(wide a&&wide b&&wide c,iv (bB a b c))))
theorem x55:cO Go.Proofs.Tryz.prog X55.1 X55.2:=x3P (xl:=[O8,aGn]) (.cons RV (.cons aLC .nil)) (fun _ _ _=>rfl) fun a b c hp=>by
 obtain⟨ax,ay⟩:=a;obtain⟨bx,b_y⟩:=b;obtain⟨cx,cy⟩:=c;unfold cV
 repeat' (conv=>whnf
          refine bm (fun h=>?_) (fun h=>?_))
 all_goals (conv=>whnf)
 all_goals (simp at *)
 ·simp [bB,gH,GX,iv]
 ·simp_all
def X57:Nat × XF:=(248,gX (s3P fun a b c=>(wide a&&wide b&&wide c,iv (bB a b c))))
theorem x57:cO Go.Proofs.Tryz.prog X57.1 X57.2:=x3P (xl:=[aGQ]) (.cons aL8 .nil) (fun _ _ _=>rfl) fun a b c hp=>by
 obtain⟨ax,ay⟩:=a;obtain⟨bx,b_y⟩:=b;obtain⟨cx,cy⟩:=c;simp only [wide,Bool.and_eq_true,decide_eq_true_eq] at hp;have m1:=qE (a:=bx - ax) (b:=cy - ay) (A:=2000000) (B:=2000000) (by omega) (by omega) (by omega) (by omega);have m2:=qE (a:=b_y - ay) (b:=cx - ax) (A:=2000000) (B:=2000000) (by omega) (by omega) (by omega) (by omega);unfold cV
 repeat' (conv=>whnf
          refine bm (fun h=>?_) (fun h=>?_))
 all_goals (conv=>whnf)
 all_goals (simp [aA,aC,aH] at *)
 all_goals first|omega|simp [bB,bA,GX,iv]
def X17:Nat × XF:=(112,gX (s1P fun p=>(true,iv (if aZ p then 0 else 1))))
theorem x17:cO Go.Proofs.Tryz.prog X17.1 X17.2:=x1P (xl:=[X58]) (.cons x58 .nil) (fun _=>rfl) fun p _=>by
 obtain⟨x,y⟩:=p;unfold cV
 repeat' (conv=>whnf
          refine bm (fun h=>?_) (fun h=>?_))
 all_goals (conv=>whnf)
 all_goals (simp [aA,aC] at *;simp [iv, *])
def X18:Nat × XF:=(187,gX (s1P fun p=>(true,iv (if aZ p then 0 else 1))))
theorem x18:cO Go.Proofs.Tryz.prog X18.1 X18.2:=x1P (xl:=[X56]) (.cons x56 .nil) (fun _=>rfl) fun p _=>by
 obtain⟨x,y⟩:=p;unfold cV
 repeat' (conv=>whnf
          refine bm (fun h=>?_) (fun h=>?_))
 all_goals (conv=>whnf)
 all_goals (simp [aA,aC] at *;simp [iv, *])
theorem oL {p:Int × Int}(h:aZ p=true):wide p=true:=by
 simp only [aZ,wide,Bool.and_eq_true,decide_eq_true_eq] at *;omega
end Go.Aw
end

noncomputable section
namespace Go.Aw
set_option maxRecDepth 100000
theorem aAD {α:Type}(E:El α){l:List α}{c:Nat}{wr g:Bool}{sz:Nat}{h:Heap}(hk:look h 0=some (.cells wr g sz (flat E.fl l))):gZ E h (.slice (some ⟨0,0,none⟩) l.length c) l :=
 ⟨rfl,wr,g,sz,_,hk,by rw [List.drop_zero,List.take_length]⟩
def s0 (v:Value):List Value→Option (Bool × Value)
 |[]=>some (true,v)
 |_=>none
theorem PX (a b c:Int × Int):bA b a c = - bA a b c:=by
 simp only [bA,Int.sub_mul,Int.mul_sub];have h1:=Int.mul_comm a.1 b.2;have h2:=Int.mul_comm a.2 b.1;have h3:=Int.mul_comm a.1 c.2;have h4:=Int.mul_comm a.2 c.1;have h5:=Int.mul_comm b.1 c.2;have h6:=Int.mul_comm b.2 c.1;have h7:=Int.mul_comm a.1 a.2;have h8:=Int.mul_comm b.1 b.2;omega
theorem lR (a b c:Int × Int) : -1≤bB a b c∧bB a b c≤1:=by
 unfold bB GX;split <;> (try split) <;> omega
end Go.Aw
end

namespace Go.Aw
theorem kD {D u:Int}(hD:0<D)(h:0≤D*u):0≤u:=by
 by_cases hu:0≤u
 ·exact hu
 ·have:0<D*(-u):=Int.mul_pos hD (by omega);rw [Int.mul_neg] at this;omega
theorem aIs {D E t u:Int}(h:D*u=E*t)(hD:0<D)(h0:0≤t)(h1:t≤D):(0≤E→0≤u∧u≤E)∧(E≤0→E≤u∧u≤0):=by
 refine⟨fun hE=>⟨?_,?_⟩,fun hE=>⟨?_,?_⟩⟩
 ·exact kD hD (by rw [h];exact Int.mul_nonneg hE h0)
 ·have h2:0≤D*(E - u):=by
   rw [Int.mul_sub,h,Int.mul_comm D E,← Int.mul_sub];exact Int.mul_nonneg hE (by omega)
  have:=kD hD h2;omega
 ·have h2:0≤D*(u - E):=by
   rw [Int.mul_sub,h,Int.mul_comm D E,← Int.mul_sub];rw [show E*(t - D)=(-E)*(D - t) by rw [Int.neg_mul,← Int.mul_neg];congr 1;omega];exact Int.mul_nonneg (by omega) (by omega)
  have:=kD hD h2;omega
 ·have h2:0≤D*(-u):=by
   rw [Int.mul_neg,h,← Int.neg_mul];exact Int.mul_nonneg (by omega) h0
  have:=kD hD h2;omega
theorem aA3 {D u:Int}(h:D*u=0)(hD:D≠0):u=0:=by
 rcases Int.mul_eq_zero.1 h with h|h
 ·exact absurd h hD
 ·exact h
theorem U3 {ax ay bx b2 px py:Int}(h:(bx - ax)*(py - ay)=(b2 - ay)*(px - ax))(hlt:ax<bx) :
  ((ax<px∨(ax=px∧ay≤py))∧(px<bx∨(px=bx∧py≤b2)))↔((ax≤px∧px≤bx)∧((ay≤b2→ay≤py∧py≤b2)∧(b2≤ay→b2≤py∧py≤ay))):=by
 constructor
 ·intro⟨h1,h2⟩;have hx:ax≤px∧px≤bx:=(by omega);have hc:=aIs (D:=bx - ax) (E:=b2 - ay) (t:=px - ax) (u:=py - ay) h (by omega) (by omega) (by omega);refine⟨hx,fun he=>?_,fun he=>?_⟩
  ·have:=hc.1 (by omega);omega
  ·have:=hc.2 (by omega);omega
 ·intro⟨h1,h2,h3⟩;have hc:=aIs (D:=bx - ax) (E:=b2 - ay) (t:=px - ax) (u:=py - ay) h (by omega) (by omega) (by omega);refine⟨?_,?_⟩
  ·by_cases e:ax<px
   ·exact .inl e
   ·have e:ax=px:=(by omega);subst e;rw [Int.sub_self,Int.mul_zero] at h;have:=aA3 h (by omega);exact .inr ⟨rfl,by omega⟩
  ·by_cases e:px<bx
   ·exact .inl e
   ·have e:px=bx:=(by omega);subst e;have h4:(px - ax)*(py - b2)=0:=by
     rw [show py - b2=(py - ay) - (b2 - ay) by omega,Int.mul_sub,h,Int.mul_comm (b2 - ay)];omega
    have:=aA3 h4 (by omega);exact .inr ⟨rfl,by omega⟩
end Go.Aw

noncomputable section
namespace Go.Aw
set_option maxRecDepth 100000
structure Cd (α:Type) where
 dec:Value→Option α
 enc:α→Value
 ok:∀ v a,dec v=some a→v=enc a
 gr:∀ a,gA (enc a)=true
def cI:Cd Int:=⟨XI,iv,fun _ _ h=>CU h,fun _=>rfl⟩
def cP:Cd (Int × Int):=⟨SA,S8,fun _ _ h=>xY h,fun _=>rfl⟩
abbrev Sg:=(Int × Int) × (Int × Int)
def sgv (s:Sg):Value:=.agg #[iv s.1.1,iv s.1.2,iv s.2.1,iv s.2.2]
def aBX:Value→Option Sg
 |.agg ⟨[.int .i64 a,.int .i64 b,.int .i64 c,.int .i64 d]⟩=>some ((a,b),(c,d))
 |_=>none
theorem LA {v:Value}{s:Sg}(h:aBX v=some s):v=sgv s:=by
 unfold aBX at h;split at h
 ·injection h with h;subst h;rfl
 ·cases h
def cS:Cd Sg:=⟨aBX,sgv,fun _ _ h=>LA h,fun _=>rfl⟩
section
variable {α β γ:Type}(a:Cd α)(b:Cd β)(c:Cd γ)
def s1 (F:α→Bool × Value):List Value→Option (Bool × Value)
 |[u]=>(match a.dec u with|some x=>some (F x)|none=>none)
 |_=>none
def s2 (F:α→β→Bool × Value):List Value→Option (Bool × Value)
 |[u,v]=>(match a.dec u with|some x=>(match b.dec v with|some y=>some (F x y)|none=>none)|none=>none)
 |_=>none
def s3 (F:α→β→γ→Bool × Value):List Value→Option (Bool × Value)
 |[u,v,w]=>(match a.dec u with|some x=>(match b.dec v with|some y=>(match c.dec w with|some z=>some (F x y z)|none=>none)|none=>none)|none=>none)
 |_=>none
theorem aG0 {F:α→Bool × Value}{args:List Value}{r:Bool × Value}(h:s1 a F args=some r):∃ x,args=[a.enc x]∧F x=r:=by
 unfold s1 at h;split at h
 ·split at h
  ·rename_i x e;injection h with h;exact⟨x,by rw [a.ok _ _ e],h⟩
  ·cases h
 ·cases h
theorem aGH {F:α→β→Bool × Value}{args:List Value}{r:Bool × Value}(h:s2 a b F args=some r):∃ x y,args=[a.enc x,b.enc y]∧F x y=r:=by
 unfold s2 at h;split at h
 ·split at h
  ·rename_i x e;split at h
   ·rename_i y e2;injection h with h;exact⟨x,y,by rw [a.ok _ _ e,b.ok _ _ e2],h⟩
   ·cases h
  ·cases h
 ·cases h
theorem ZC {F:α→β→γ→Bool × Value}{args:List Value}{r:Bool × Value}(h:s3 a b c F args=some r):∃ x y z,args=[a.enc x,b.enc y,c.enc z]∧F x y z=r:=by
 unfold s3 at h;split at h
 ·split at h
  ·rename_i x e;split at h
   ·rename_i y e2;split at h
    ·rename_i z e3;injection h with h;exact⟨x,y,z,by rw [a.ok _ _ e,b.ok _ _ e2,c.ok _ _ e3],h⟩
    ·cases h
   ·cases h
  ·cases h
 ·cases h
theorem x1 {xl:List (Nat × XF)}(hx:kM xl){f:Nat}{F:α→Bool × Value}(hg:∀ x,gT (F x).2=true)(h:∀ x,(F x).1=true→cV xl f [a.enc x] (F x).2):cO Go.Proofs.Tryz.prog f (gX (s1 a F)) :=
 vM (aL hx) fun args v hs=>by
  obtain⟨x,rfl,e⟩:=aG0 a hs;have h1:(F x).1=true:=(by rw [e]);have h2:(F x).2=v:=(by rw [e]);subst h2;exact⟨by simp [eH,a.gr],hg x,h x h1⟩
theorem x2 {xl:List (Nat × XF)}(hx:kM xl){f:Nat}{F:α→β→Bool × Value}(hg:∀ x y,gT (F x y).2=true)(h:∀ x y,(F x y).1=true→cV xl f [a.enc x,b.enc y] (F x y).2):cO Go.Proofs.Tryz.prog f (gX (s2 a b F)) :=
 vM (aL hx) fun args v hs=>by
  obtain⟨x,y,rfl,e⟩:=aGH a b hs;have h1:(F x y).1=true:=(by rw [e]);have h2:(F x y).2=v:=(by rw [e]);subst h2;exact⟨by simp [eH,a.gr,b.gr],hg x y,h x y h1⟩
theorem x3 {xl:List (Nat × XF)}(hx:kM xl){f:Nat}{F:α→β→γ→Bool × Value}(hg:∀ x y z,gT (F x y z).2=true)(h:∀ x y z,(F x y z).1=true→cV xl f [a.enc x,b.enc y,c.enc z] (F x y z).2):cO Go.Proofs.Tryz.prog f (gX (s3 a b c F)) :=
 vM (aL hx) fun args v hs=>by
  obtain⟨x,y,z,rfl,e⟩:=ZC a b c hs;have h1:(F x y z).1=true:=(by rw [e]);have h2:(F x y z).2=v:=(by rw [e]);subst h2;exact⟨by simp [eH,a.gr,b.gr,c.gr],hg x y z,h x y z h1⟩
end
def aJr (xl:List (Nat × XF))(n:Nat):VC:=sN aA (some n) (CX (look xl)) noY
theorem lM {xl:List (Nat × XF)}(h:kM xl)(n:Nat):bG Go.Proofs.Tryz.prog (aJr xl n):=x6 gE (S6 h.look) QA (KL h.look) DK (some n)
def aO:El Int:=⟨fun n=>[iv n],1,fun _=>rfl,fun _=>rfl,by decide⟩
def WQ (a b:Int):Int:=if a=0 then b else a
def aIj:List Int→List Value→Option (Bool × Value)
 |[a,b],[]=>some (true,iv (WQ a b))
 |_,_=>none
def Z6:Nat × XF:=(178,lX aO aIj)
theorem aFB:cO Go.Proofs.Tryz.prog Z6.1 Z6.2:=SR aO (lM (xl:=[]) .nil 4) fun l r v hs=>by
 have:∃ a b,l=[a,b]∧r=[]∧v=iv (WQ a b):=by
  unfold aIj at hs;split at hs
  ·injection hs with hs;injection hs with _ h2;exact⟨_,_,rfl,rfl,h2.symm⟩
  ·cases hs
 obtain⟨a,b,rfl,rfl,rfl⟩:=this;refine⟨rfl,rfl,fun c=>?_⟩
 repeat' (conv=>whnf
          refine bm (fun h=>?_) (fun h=>?_))
 all_goals (conv=>whnf)
 all_goals (simp only [aA,aC,iv,WQ] at *;simp at *)
 all_goals (try simp_all)
theorem B7 (p:Int × Int):(p.1,p.2)=p:=rfl
def jM (a b:Int × Int):Int:=WQ (gH a.1 b.1) (gH a.2 b.2)
def Y3:Nat × XF:=(194,gX (s2 cP cP fun a b=>(true,iv (jM a b))))
theorem aCT:cO Go.Proofs.Tryz.prog Y3.1 Y3.2:=x2 cP cP (xl:=[O8,Z6]) (.cons RV (.cons aFB .nil)) (fun _ _=>rfl) fun a b _=>by
 obtain⟨ax,ay⟩:=a;obtain⟨bx,b_y⟩:=b;unfold cV
 conv=>whnf
 refine⟨[gH ax bx,gH ay b_y],⟨rfl,_,_,_,_,rfl,rfl⟩,?_⟩
 conv=>whnf
 rfl
def bN (s:Sg):(Int × Int) × (Int × Int):=if 0<jM s.1 s.2 then (s.2,s.1) else (s.1,s.2)
def X74:Nat × XF:=(225,gX (s1 cS fun s=>(true,.tuple #[S8 (bN s).1,S8 (bN s).2])))
theorem x74:cO Go.Proofs.Tryz.prog X74.1 X74.2:=x1 cS (xl:=[Y3]) (.cons aCT .nil) (fun _=>rfl) fun s _=>by
 obtain⟨⟨ax,ay⟩,⟨bx,b_y⟩⟩:=s;unfold cV
 repeat' (conv=>whnf
          refine bm (fun h=>?_) (fun h=>?_))
 all_goals (conv=>whnf)
 all_goals (simp only [aA,aC,decide_eq_true_eq,decide_eq_false_iff_not] at h)
 ·simp [bN,h,S8,iv]
 ·simp [bN,h,S8,iv]
def G8 (p:Int × Int)(s:Sg):Bool:=decide (jM (bN s).1 p≤0)&&decide (jM p (bN s).2≤0)
def aHK:Nat × XF:=(250,gX (s2 cP cS fun p s=>(true,.bool (G8 p s))))
theorem aKm:cO Go.Proofs.Tryz.prog aHK.1 aHK.2:=x2 cP cS (xl:=[Y3,X74]) (.cons aCT (.cons x74 .nil)) (fun _ _=>rfl) fun p s _=>by
 obtain⟨px,py⟩:=p;obtain⟨⟨ax,ay⟩,⟨bx,b_y⟩⟩:=s;unfold cV
 repeat' (conv=>whnf
          refine bm (fun h=>?_) (fun h=>?_))
 all_goals (conv=>whnf)
 all_goals (simp only [aA,aC,B7] at *;simp at h ⊢;simp [G8, *] <;> omega)
def gV (s:Sg):Bool:=wide s.1&&wide s.2
def onS (p:Int × Int)(s:Sg):Bool:=decide (bB s.1 s.2 p=0)&&G8 p s
def X65:Nat × XF:=(226,gX (s2 cP cS fun p s=>(wide p&&gV s,.bool (onS p s))))
theorem x65:cO Go.Proofs.Tryz.prog X65.1 X65.2:=x2 cP cS (xl:=[X55,aHK]) (.cons x55 (.cons aKm .nil)) (fun _ _=>rfl) fun p s hp=>by
 obtain⟨px,py⟩:=p;obtain⟨⟨ax,ay⟩,⟨bx,b_y⟩⟩:=s;simp only [gV,Bool.and_eq_true] at hp;unfold cV
 repeat' (conv=>whnf
          refine bm (fun h=>?_) (fun h=>?_))
 all_goals (conv=>whnf)
 all_goals (simp only [aA,aC,B7] at *;(try simp at h);(try simp);(try simp_all [onS]))
def jI (a b:Int × Int):Bool:=decide (a.1=b.1)&&(decide (a.2=b.2)&&true)
def dV (s:Sg):Bool:=aZ s.1&&aZ s.2&&!(jI s.1 s.2)
def X64:Nat × XF:=(191,gX (s1 cS fun s=>(true,.bool (dV s))))
theorem x64:cO Go.Proofs.Tryz.prog X64.1 X64.2:=x1 cS (xl:=[X58]) (.cons x58 .nil) (fun _=>rfl) fun s _=>by
 obtain⟨⟨ax,ay⟩,⟨bx,b_y⟩⟩:=s;unfold cV
 repeat' (conv=>whnf
          refine bm (fun h=>?_) (fun h=>?_))
 all_goals (conv=>whnf)
 all_goals (simp [aA,aC,jI] at *;simp [dV,jI, *])
def OnS (p:Int × Int)(s:Sg):Bool:=aZ p&&dV s&&onS p s
theorem r9 {s:Sg}(h:dV s=true):gV s=true:=by
 simp only [dV,gV,Bool.and_eq_true] at *;exact⟨oL h.1.1,oL h.1.2⟩
def X20:Nat × XF:=(199,gX (s2 cP cS fun p s=>(true,.bool (OnS p s))))
theorem x20:cO Go.Proofs.Tryz.prog X20.1 X20.2:=x2 cP cS (xl:=[X58,X64,X65]) (.cons x58 (.cons x64 (.cons x65 .nil))) (fun _ _=>rfl) fun p s hp=>by
 obtain⟨px,py⟩:=p;obtain⟨⟨ax,ay⟩,⟨bx,b_y⟩⟩:=s;unfold cV
 repeat' (conv=>whnf
          refine bm (fun h=>?_) (fun h=>?_))
 all_goals (conv=>whnf)
 all_goals (simp [aA,aC] at *)
 all_goals first|(simp [OnS, *];done)|(simp_all [OnS,oL,r9];done)
theorem lL {α:Type}(E:El α)(l:List α){i k o:Nat}{v:Value}(hi:i<l.length)(hk:(E.fl l[i])[k]? = some v)(hks:k<E.sz)(ho:o=i*E.sz+k):nth (flat E.fl l) o=some v:=by
 subst ho;have h1:=L8 E l i hi;rw [v7,← hk,← h1,List.getElem?_take_of_lt hks,List.getElem?_drop]
theorem aLi (l:List (Int × Int)){i o:Nat}(hi:i<l.length)(ho:o=i*2):nth (flat aQ.fl l) o=some (iv l[i].1) :=
 lL aQ l (k:=0) hi rfl (by decide) (by simp [ho,aQ])
def mx (a b:Int):Int:=if a<b then b else a
theorem oZ (a b:Int):aA.A.add a b=a+b:=rfl
theorem LG (a b:Int):aA.A.mul a b=a*b:=rfl
theorem nK (a b:Int):aA.A.lt a b=decide (a<b):=rfl
theorem VL (a b:Int):aA.A.le a b=decide (a≤b):=rfl
theorem IL (a b:Int):aA.A.eq a b=decide (a=b):=rfl
theorem jA (k:IntKind)(a:Int):aA.A.fits k a=aH k a:=rfl
theorem o6 (a:Nat):aA.A.num a=(a:Int):=rfl
theorem uK (a b:Bool):aA.A.andB a b=(a&&b):=rfl
theorem lJ (a:Bool):aA.A.notB a=!a:=rfl
theorem iQ (a b:Bool):aA.A.eqB a b=(a == b):=rfl
def fT (l:List (Int × Int))(i:Nat):Int × Int:=l.getD i (0,0)
theorem lW {l:List (Int × Int)}{i:Nat}(h:i<l.length):fT l i=l[i]:=by
 unfold fT;rw [List.getD_eq_getElem?_getD,List.getElem?_eq_getElem h];rfl
theorem aF6 (l:List (Int × Int)){i o:Nat}(hi:i<l.length)(ho:o=i*2):nth (flat aQ.fl l) o=some (iv (fT l i).1):=by rw [lW hi];exact aLi l hi ho
theorem MR (l:List (Int × Int)){i o:Nat}(hi:i<l.length)(ho:o=i*2):nO (flat aQ.fl l) o 2=some [iv (fT l i).1,iv (fT l i).2]:=by
 rw [lW hi];exact y5 aQ l hi ho
def HY (s t:Sg):Int × Int:=if jM (bN s).1 (bN t).1<0 then (bN t).1 else (bN s).1
def vI (s t:Sg):Int × Int:=if jM (bN t).2 (bN s).2<0 then (bN t).2 else (bN s).2
def aDQ (o:Int):Int:=if o = -1 then 4 else if o=0 then 1 else 0
def VN (a b c d:Int):Int :=
 if 0<a*b∨0<c*d then 0
 else if (c=0∨d=0)∧(a=0∨b=0) then 1
 else if (c=0∨d=0)∨(a=0∨b=0) then 2
 else 3
def jQ (s t:Sg):Int :=
 if bB s.1 s.2 t.1=0∧bB s.1 s.2 t.2=0 then aDQ (jM (HY s t) (vI s t))
 else VN (bB s.1 s.2 t.1) (bB s.1 s.2 t.2) (bB t.1 t.2 s.1) (bB t.1 t.2 s.2)
def u8 (n:Int):Value:=.int .u8 n
theorem yZ (a b:Int × Int):jM a b = -1∨jM a b=0∨jM a b=1:=by
 unfold jM WQ gH;split <;> split <;> (try split) <;> (try split) <;> omega
theorem aCS {o:Int}(h:o = -1∨o=0∨o=1){k:Nat}(hk:k=(o+1).toNat):nth [u8 4,u8 1,u8 0] k=some (u8 (aDQ o)):=by
 subst hk;rcases h with rfl|rfl|rfl <;> rfl
theorem aCU (a b:Int × Int):aA.A.fits .i64 (aA.A.add (jM a b) 1)=true:=by
 rcases yZ a b with e|e|e <;> rw [e] <;> rfl
theorem aGu (a b:Int × Int):aA.A.andB (aA.A.le 0 (aA.A.add (jM a b) 1)) (aA.A.lt (aA.A.add (jM a b) 1) (aA.A.num 3))=true:=by
 rcases yZ a b with e|e|e <;> rw [e] <;> rfl
def X68:Nat × XF:=(189,gX (s2 cS cS fun s t=>(gV s&&gV t,u8 (jQ s t))))
theorem x68:cO Go.Proofs.Tryz.prog X68.1 X68.2:=x2 cS cS (xl:=[X55,X74,Y3]) (.cons x55 (.cons x74 (.cons aCT .nil))) (fun _ _=>rfl) fun s t hp=>by
 obtain⟨⟨ax,ay⟩,⟨bx,b2⟩⟩:=s;obtain⟨⟨cx,cy⟩,⟨dx,dy⟩⟩:=t;have l1:=lR (ax,ay) (bx,b2) (cx,cy);have l2:=lR (ax,ay) (bx,b2) (dx,dy);have l3:=lR (cx,cy) (dx,dy) (ax,ay);have l4:=lR (cx,cy) (dx,dy) (bx,b2);have m1:=qE (A:=1) (B:=1) l1.1 l1.2 l2.1 l2.2;have m2:=qE (A:=1) (B:=1) l3.1 l3.2 l4.1 l4.2;simp only [gV,Bool.and_eq_true] at hp;unfold cV
 repeat' (conv=>whnf
          refine bm (fun h=>?_) (fun h=>?_))
 all_goals (try (refine iB (aCS (yZ _ _) (by show 0+(_+1:Int).toNat*1=_;rw [Nat.zero_add,Nat.mul_one])) ?_))
 all_goals (try (conv=>whnf))
 all_goals (clear l3 l4)
 all_goals first
  |(show _=_
    simp only [oZ,LG,nK,IL,jA,iQ,uK,lJ,VL,o6,aH,B7,Bool.and_eq_true,beq_iff_eq,beq_eq_false_iff_ne,ne_eq,decide_eq_true_eq,decide_eq_false_iff_not,not_and,Bool.not_eq_true',Bool.not_eq_false'] at *;simp only [jQ,VN,HY,vI]
    simp_all [u8,iv]
    done)
  |(show _=_
    simp only [nK,IL,iQ,B7,beq_iff_eq,decide_eq_true_eq,decide_eq_false_iff_not] at *;simp only [jQ,HY,vI, *,and_self,if_true,if_false]
    done)
  |(rw [aCU] at h;cases h)
  |(rw [aGu] at h;cases h)
  |(simp [hp] at h;done)
  |(simp only [LG,jA,aH,B7,Bool.eq_false_iff,ne_eq,Bool.and_eq_true,decide_eq_true_eq] at h;omega)
  |skip
 trace_state
end Go.Aw
end
