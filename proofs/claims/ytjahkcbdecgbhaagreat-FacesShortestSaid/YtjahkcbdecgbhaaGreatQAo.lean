/-
  Parts of a proof. No condition.
-/
import Derived.Test.YtjahkcbdecgbhaaGreatQAl
import Derived.Test.YtjahkcbdecgbhaaGreatQAn
import Derived.WalkKit
set_option linter.unusedSimpArgs false
set_option linter.unusedVariables false
noncomputable section
namespace Go.Aw
open Go.RowKit
theorem bF {α:Type}{l:List (Nat × α)}{k:Nat}{o:α}(h:look l k=some o):(k,o)∈l:=by
 induction l with
 |nil=>exact bY h
 |cons x r ih =>
  obtain⟨j,q⟩:=x;rw [aC] at h;split at h
  ·rename_i hb;have:=beq_true hb;subst this;injection h with h;subst h;exact .head _
  ·exact .tail _ (ih h)
theorem cC {l:List Value}(h:fC l=true){v:Value}(hv:v∈l):gT v=true:=by
 induction l with
 |nil=>cases hv
 |cons x r ih =>
  simp only [fC,Bool.and_eq_true] at h;cases hv with
  |head =>
   have:=h.1;cases v <;> first|exact this|(simp [gA,gS] at this)
  |tail _ hm=>exact ih h.2 hm
theorem ZH {k o n c:Nat}{r:List Value}(hr:fC r=true){h:Heap}{nx:Nat}{wr g:Bool}{sz0:Nat}{cs:List Value}(hk:look h k=some (.cells wr g sz0 cs)){cs0:List Value}(hcs:(cs.drop o).take cs0.length=cs0)(hg:c9 cs0=true)(g0:Bool)(sz:Nat)(hz:sz≠0) :
  In (.slice (some ⟨0,0,none⟩) n c::r) [(0,.cells false g0 sz cs0)] 1 (.slice (some ⟨k,o,none⟩) n c::r) h nx:=by
 intro ι B w H hs;have hx:k<nx∧((ι k).fI=false→n=0∧c=0):=hs _ (.head _);have hmap:∀ ι1 ι2:Nat→Loc,r.map (tr ι1)=r.map (tr ι2):=fun ι1 ι2=>List.map_congr_left fun v hv=>(by rw [fZ (cC hr hv),fZ (cC hr hv)]);have hsc:∀ ι0:Nat→Loc,∀ v∈r,eK ι0 1 v:=fun ι0 v hv=>cY (cC hr hv);have ho:=H.obj k _ hk;cases hι:ι k with
 |nil p =>
  rw [hι] at ho;have hnil:cs=[]:=(by cases wr <;> exact ho.1);subst hnil;have h0:cs0=[]:=(by rw [← hcs];simp);subst h0;refine⟨fun _=>.nil p,?_,?_,⟨?_,?_,?_,Nat.le_refl _,?_⟩⟩
  ·rw [List.map_cons,List.map_cons,hmap ι];congr 1;simp [tr,dS,bS,dT,hι]
  ·intro v hv;cases hv with
   |head=>exact⟨Nat.one_pos,fun _=>hx.2 (by rw [hι];rfl)⟩
   |tail _ hm=>exact hsc _ v hm
  ·intro j q hq;rw [aC] at hq;split at hq
   ·injection hq with hq;subst hq;exact⟨rfl,fun h=>h.elim (fun h=>absurd h hz) (fun h=>by cases h)⟩
   ·exact bY hq
  ·intro j j' q q' hq hq' hne ha b hb;cases hb
  ·intro j q hq;rw [aC] at hq;split at hq
   ·rename_i hb;rw [← beq_true hb];exact Nat.one_pos
   ·exact bY hq
  ·intro j q hq;rw [aC] at hq;split at hq
   ·injection hq with hq;subst hq;intro v hv;cases hv
   ·exact bY hq
 |lay b off e =>
  have hlt:b<w.heap.size:=ho.lt (by rw [hι];rfl);refine⟨fun _=>.lay b (off+o) e,?_,?_,⟨?_,?_,?_,Nat.le_refl _,?_⟩⟩
  ·rw [List.map_cons,List.map_cons,hmap ι];congr 1;simp [tr,dS,bS,dT,hι]
  ·intro v hv;cases hv with
   |head=>exact⟨Nat.one_pos,fun h=>by cases h⟩
   |tail _ hm=>exact hsc _ v hm
  ·intro j q hq;rw [aC] at hq;split at hq
   ·injection hq with hq;subst hq;refine⟨hlt,fun _=>hg,fun i v hv=>?_⟩;have hv2:cs[o+i]? = some v:=by
     rw [← hcs] at hv;rw [List.getElem?_take] at hv;split at hv
     ·rw [List.getElem?_drop] at hv;exact hv
     ·cases hv
    obtain⟨b',off',e',hι',hc⟩:=H.cell hk hv2;rw [hι] at hι';injection hι' with e1 e2 e3;subst e1;subst e2;have hgv:=aU hg (List.mem_of_getElem? hv);rw [Nat.add_assoc,hc,jM hgv,jM hgv]
   ·exact bY hq
  ·intro j j' q q' hq hq' hne ha b hb;rw [aC] at hq hq';split at hq
   ·rename_i hb1;split at hq'
    ·rename_i hb2;exact absurd ((beq_true hb1).symm.trans (beq_true hb2)) hne
    ·exact bY hq'
   ·exact bY hq
  ·intro j q hq;rw [aC] at hq;split at hq
   ·rename_i hb;rw [← beq_true hb];exact Nat.one_pos
   ·exact bY hq
  ·intro j q hq;rw [aC] at hq;split at hq
   ·injection hq with hq;subst hq;exact fun v hv=>cA (aU hg hv)
   ·exact bY hq
end Go.Aw
end

noncomputable section
namespace Go.Aw
def ltF:Int→Int→Bool
 |.ofNat m,.ofNat n=>Nat.blt m n
 |.ofNat _,.negSucc _=>false
 |.negSucc _,.ofNat _=>true
 |.negSucc m,.negSucc n=>Nat.blt n m
def leF:Int→Int→Bool
 |.ofNat m,.ofNat n=>Nat.ble m n
 |.ofNat _,.negSucc _=>false
 |.negSucc _,.ofNat _=>true
 |.negSucc m,.negSucc n=>Nat.ble n m
def eqF:Int→Int→Bool
 |.ofNat m,.ofNat n=>Nat.beq m n
 |.ofNat _,.negSucc _=>false
 |.negSucc _,.ofNat _=>false
 |.negSucc m,.negSucc n=>Nat.beq m n
def TL:IntKind→Int→Bool
 |.i64,.ofNat m=>Nat.ble m 9223372036854775807
 |.i64,.negSucc m=>Nat.ble m 9223372036854775807
 |k,n=>aI k n
theorem aCl (m n:Nat):Nat.blt m n=decide (m<n):=by
 cases h:Nat.blt m n with
 |true=>exact (decide_eq_true (pB h)).symm
 |false =>
  refine (decide_eq_false fun hl=>?_).symm;have:Nat.blt m n=true:=Nat.ble_eq_true_of_le hl;rw [h] at this;cases this
theorem TG (m n:Nat):Nat.ble m n=decide (m≤n):=by
 cases h:Nat.ble m n with
 |true=>exact (decide_eq_true (Nat.le_of_ble_eq_true h)).symm
 |false =>
  refine (decide_eq_false fun hl=>?_).symm;have:Nat.ble m n=true:=Nat.ble_eq_true_of_le hl;rw [h] at this;cases this
theorem aDo (m n:Nat):Nat.beq m n=decide (m=n):=by
 cases h:Nat.beq m n with
 |true=>exact (decide_eq_true (beq_true h)).symm
 |false=>exact (decide_eq_false (beq_false h)).symm
theorem aHj (a b:Int):ltF a b=decide (a<b):=by
 rw [Bool.eq_iff_iff];cases a <;> cases b <;> simp only [ltF,aCl,decide_eq_true_eq,Int.ofNat_eq_natCast,Int.negSucc_eq,Bool.false_eq_true,false_iff,true_iff] <;> omega
theorem aG9 (a b:Int):leF a b=decide (a≤b):=by
 rw [Bool.eq_iff_iff];cases a <;> cases b <;> simp only [leF,TG,decide_eq_true_eq,Int.ofNat_eq_natCast,Int.negSucc_eq,Bool.false_eq_true,false_iff,true_iff] <;> omega
theorem aGW (a b:Int):eqF a b=decide (a=b):=by
 rw [Bool.eq_iff_iff];cases a <;> cases b <;> simp only [eqF,aDo,decide_eq_true_eq,Int.ofNat_eq_natCast,Int.negSucc_eq,Bool.false_eq_true,false_iff,true_iff] <;> omega
theorem aAU (k:IntKind)(n:Int):TL k n=aI k n:=by
 cases k <;> try rfl
 rw [Bool.eq_iff_iff];cases n <;> simp only [TL,aI,TG,Bool.and_eq_true,decide_eq_true_eq,Int.ofNat_eq_natCast,Int.negSucc_eq] <;> omega
def US:Ar:={ aF with
 add:=Int.add,sub:=Int.sub,mul:=Int.mul
 lt:=ltF,le:=leF,eq:=eqF,fits:=TL
 ix:=fun o i s=>Nat.add o (Nat.mul i.toNat s)
 num:=Int.ofNat,toN:=Int.toNat,subN:=Nat.sub }
theorem aAh:US=aF:=by
 unfold US
 rw [show ltF=aF.lt from funext fun a=>funext fun b=>aHj a b,show leF=aF.le from funext fun a=>funext fun b=>aG9 a b,
  show eqF=aF.eq from funext fun a=>funext fun b=>aGW a b,show TL=aF.fits from funext fun a=>funext fun b=>aAU a b]
 rfl
def aKV:CP:={ A:=US,T:=tyT,FT:=look ftL,PL:=plF,PR:=fun _=>false,X:=fun _=>none,M:=1000 }
theorem VG:∀ {l:List (Nat × Func)} {f:Nat} {fn:Func},GW l=true→(f,fn)∈l→fnB f fn=true
 |[],_,_,_,h=>by cases h
 |(g,gn)::r,f,fn,hb,h=>by
  simp only [GW,Bool.and_eq_true] at hb;cases h with
  |head=>exact hb.1
  |tail _ hm=>exact VG hb.2 hm
theorem M4 (f : Nat)(fn : Func)(h : look ftL f = some fn) : Go.Proofs.Tryz.prog.funcs[f]? = some fn ∧ (fn.name == "runtime.NumGoroutine") = false ∧ ∀ b, fn.body = some b → dR (plF f) b = true := by
 have hm:=bF h;have hb:=VG aHa hm;unfold fnB at hb;simp only [Bool.and_eq_true,Bool.not_eq_true'] at hb;have h1:Go.Proofs.Tryz.prog.funcs[(f,fn).1]? = some (f,fn).2:=aHq (f,fn) hm;refine⟨h1,hb.1,?_⟩;have h2:=hb.2;generalize plF f=Φ at h2 ⊢;intro b he;simp only [he] at h2;exact h2
theorem ES (X:Nat→Option (List Value→Heap→Nat→KE→Prop))(hX:∀ f x,X f=some x→dM Go.Proofs.Tryz.prog f x)(PR:Nat→Bool)(M:Nat):o8 Go.Proofs.Tryz.prog { A:=US,T:=tyT,FT:=look ftL,PL:=plF,PR:=PR,X:=X,M:=M } where
 ar:=aAh
 tab:=K4 ZG
 mixed:=by decide +kernel
 funcs:=M4
 xs:=hX
def iv (n:Int):Value:=.int .i64 n
def pt (x y:Int):Value:=.agg #[iv x,iv y]
end Go.Aw
end

noncomputable section
namespace Go.Aw
open Go.RowKit
theorem bm {b:Bool}{X Y:Prop}(h1:b=true→X)(h2:b=false→Y):(match (generalizing:=false) b with|true=>X|false=>Y):=by
 cases b
 ·exact h2 rfl
 ·exact h1 rfl
theorem IF {x:Option (List Value)}{v:List Value}{G:List Value→Prop}(h:x=some v)(k:G v):(match (generalizing:=false) x with|some v=>G v|none=>False):=by
 subst h;exact k
theorem eP {x:Option Value}{v:Value}{G:Value→Prop}(h:x=some v)(k:G v):(match (generalizing:=false) x with|some v=>G v|none=>False):=by
 subst h;exact k
abbrev XF:=List Value→Heap→Nat→KE→Prop
def CX (X:Nat→Option XF):VC:=fun f args h nx K=>match X f with|some x=>x args h nx K|none=>False
def noY:VY:=fun _ _ _ _ _=>False
theorem aBq {P:Program}{X:Nat→Option XF}(hX:∀ f x,X f=some x→dM P f x):bL P (CX X):=by
 intro f args h nx K hl ι B w H hs;unfold CX at hl;split at hl
 ·rename_i x hx;exact (hX f x hx).1 args h nx K hl ι B w H hs
 ·exact hl.elim
theorem LA {P:Program}{X:Nat→Option XF}(hX:∀ f x,X f=some x→dM P f x):dZ (CX X):=by
 intro f args h nx K hl;unfold CX at hl;split at hl
 ·rename_i x hx;obtain⟨v,h',nx',k1,k2⟩:=(hX f x hx).2 args h nx K hl;exact⟨v,h',nx',k1,fun K' hk=>by unfold CX;rw [hx];exact k2 K' hk⟩
 ·exact hl.elim
theorem RL {P:Program}:eD P noY:=fun _ _ _ _ _ hl=>hl.elim
theorem CO:dZ noY:=fun _ _ _ _ _ hl=>hl.elim
theorem dM.mono {P:Program}{f:Nat}{x x':XF}(h:dM P f x)(hm:∀ args h nx K,x' args h nx K→x args h nx K)(hd:∀ args h nx,eR (x' args h nx)):dM P f x' :=
 ⟨fun args hh nx K hx=>h.1 args hh nx K (hm _ _ _ _ hx),hd⟩
def gX (s:List Value→Option (Bool × Value)):XF:=fun args h nx K=>match s args with|some p=>dP p.1 (K p.2 h nx)|none=>False
theorem nQ (h:Heap):app h []=h:=by
 induction h with
 |nil=>rfl
 |cons x r ih=>simp only [app,ih]
theorem sC {P:Program}{C:VC}{f:Nat}{s:List Value→Option (Bool × Value)}(hC:bL P C)
  (hs:∀ args v,s args=some (true,v)→fC args=true∧gT v=true∧C f args [] 0 (fun u _ _=>u=v)):dM P f (gX s):=by
 refine (jX (S:=fun args0 h0 n0 v1 h1 m=>s args0=some (true,v1)∧h0=[]∧n0=0∧h1=[]∧m=0) hC ?_).mono ?_ ?_
 ·rintro args0 h0 n0 v1 h1 m ⟨e1,rfl,rfl,rfl,rfl⟩;obtain⟨a1,a2,a3⟩:=hs args0 v1 e1;refine⟨rfl,?_⟩;exact⟨_,a3,fun v h nx e=>by rw [e];exact mI a2⟩
 ·intro args h nx K hx;unfold gX at hx;split at hx
  ·rename_i p e1;obtain⟨b,v⟩:=p;obtain⟨rfl,hx⟩:=aG.1 hx;obtain⟨a1,a2,a3⟩:=hs args v e1;refine⟨args,[],0,v,[],0,⟨e1,rfl,rfl,rfl,rfl⟩,aL5 fun u hu=>cC a1 hu,?_⟩;simp only [qW,w8,lT,nQ,r5 a2,Nat.add_zero];exact hx
  ·exact hx.elim
 ·intro args h nx K hx;unfold gX at hx;split at hx
  ·rename_i p e1;obtain⟨hb,hx⟩:=aG.1 hx;exact⟨p.2,h,nx,hx,fun K' hk=>by unfold gX;rw [e1];exact aJ hb hk⟩
  ·exact hx.elim
theorem aK {ρ:Nat→Nat}{n sz:Nat}{wr g:Bool}{cs:List Value}(hg:c9 cs=true):bO ρ n (.cells wr g sz cs) (.cells wr g sz cs) :=
 ⟨rfl,rfl,rfl,(bW hg).symm,fun v hv=>cA (aU hg hv)⟩
theorem cO {b n0 nx:Nat}{I:KS}{e0 e:List (Nat × Value)}{h0 h:Heap}(hI:I e0 h0 n0)(he:∀ p∈e0,look e p.1=some (iB id p.2)∧A0 n0 p.2)
  (hh:∀ p∈h0,p.1<n0∧∃ o',look h (id p.1)=some o'∧bO id n0 p.2 o') (hb:b≤n0):qU b I e h nx :=
 ⟨e0,h0,n0,id,hI,fun t v hv=>he (t,v) (bF hv),fun k o hk=>hh (k,o) (bF hk),fun k k' o o' _ _ e=>e,fun k _=>rfl,hb⟩
def flat {α:Type}(fl:α→List Value):List α→List Value
 |[]=>[]
 |a::r=>fl a++flat fl r
structure El (α:Type) where
 fl:α→List Value
 sz:Nat
 len:∀ a,(fl a).length=sz
 gr:∀ a,c9 (fl a)=true
 pos:sz≠0:=by decide
section
variable {α:Type}(E:El α)
theorem bJ (l:List α):(flat E.fl l).length=l.length*E.sz:=by
 induction l with
 |nil=>simp [flat]
 |cons a r ih=>simp only [flat,List.length_append,E.len,ih,List.length_cons,Nat.succ_mul];omega
theorem aE (l:List α):c9 (flat E.fl l)=true:=by
 induction l with
 |nil=>rfl
 |cons a r ih=>simp only [flat,A7,E.gr,ih,Bool.and_self]
theorem aCB {l:List Value}{o n:Nat}(h:o+n≤l.length):m5 l o n=some ((l.drop o).take n):=by
 induction n generalizing o with
 |zero=>simp [m5]
 |succ n ih =>
  have hlt:o<l.length:=(by omega);simp only [m5,rV,List.getElem?_eq_getElem hlt,ih (o:=o+1) (by omega)];congr 1;rw [List.drop_eq_getElem_cons hlt];rfl
theorem KM (l:List α)(i:Nat)(hi:i<l.length):((flat E.fl l).drop (i*E.sz)).take E.sz=E.fl l[i]:=by
 induction l generalizing i with
 |nil=>simp at hi
 |cons a r ih =>
  cases i with
  |zero =>
   simp only [flat,Nat.zero_mul,List.drop_zero,List.getElem_cons_zero];rw [List.take_append_of_le_length (by rw [E.len];exact Nat.le_refl _),List.take_of_length_le (by rw [E.len];exact Nat.le_refl _)]
  |succ i =>
   have hl:(fl:List Value)→True:=fun _=>trivial;simp only [flat,List.getElem_cons_succ];rw [show (i+1)*E.sz=(E.fl a).length+i*E.sz by rw [E.len,Nat.succ_mul];omega,List.drop_append,Nat.add_sub_cancel_left,List.drop_eq_nil_of_le (by omega),List.nil_append];exact ih i (by simpa using hi)
theorem GH (l:List α){i o:Nat}(hi:i<l.length)(ho:o=i*E.sz):m5 (flat E.fl l) o E.sz=some (E.fl l[i]):=by
 subst ho;have h1:(i+1)*E.sz≤l.length*E.sz:=Nat.mul_le_mul_right _ hi;rw [aCB (by rw [bJ];rw [Nat.succ_mul] at h1;exact h1),KM E l i hi]
def jQ (h:Heap)(v:Value)(l:List α):Prop :=
 match v with
 |.slice none n c=>n=0∧c=0∧l=[]
 |.slice (some ⟨k,o,none⟩) n _=>n=l.length∧∃ wr g sz cs,look h k=some (.cells wr g sz cs)∧(cs.drop o).take (flat E.fl l).length=flat E.fl l
 |_=>False
def lX (s:List α→List Value→Option (Bool × Value)):XF:=fun args h nx K=>match args with
 |v::r=>∃ l,jQ E h v l∧(match s l r with|some p=>dP p.1 (K p.2 h nx)|none=>False)
 |_=>False
theorem RF {r:List Value}(hr:fC r=true){h:Heap}{nx:Nat}(g0:Bool)(sz:Nat)(hz:sz≠0):In (.slice (some ⟨0,0,none⟩) 0 0::r) [(0,.cells false g0 sz [])] 1 (.slice none 0 0::r) h nx:=by
 intro ι B w H hs;have hmap:∀ ι1 ι2:Nat→Loc,r.map (tr ι1)=r.map (tr ι2):=fun ι1 ι2=>List.map_congr_left fun v hv=>(by rw [fZ (cC hr hv),fZ (cC hr hv)]);refine⟨fun _=>.nil none,?_,?_,⟨?_,?_,?_,Nat.le_refl _,?_⟩⟩
 ·rw [List.map_cons,List.map_cons,hmap ι];rfl
 ·intro v hv;cases hv with
  |head=>exact⟨Nat.one_pos,fun _=>⟨rfl,rfl⟩⟩
  |tail _ hm=>exact cY (cC hr hm)
 ·intro j q hq;rw [aC] at hq;split at hq
  ·injection hq with hq;subst hq;exact⟨rfl,fun h=>h.elim (fun h=>absurd h hz) (fun h=>by cases h)⟩
  ·exact bY hq
 ·intro j j' q q' hq hq' hne ha b hb;cases hb
 ·intro j q hq;rw [aC] at hq;split at hq
  ·rename_i hb;rw [← beq_true hb];exact Nat.one_pos
  ·exact bY hq
 ·intro j q hq;rw [aC] at hq;split at hq
  ·injection hq with hq;subst hq;intro v hv;cases hv
  ·exact bY hq
theorem M0 {P:Program}{C:VC}{f:Nat}{s:List α→List Value→Option (Bool × Value)}(hC:bL P C)
  (hs:∀ l r v,s l r=some (true,v)→fC r=true∧gT v=true∧∀ c,C f (.slice (some ⟨0,0,none⟩) l.length c::r) [(0,.cells false true E.sz (flat E.fl l))] 1 (fun u _ _=>u=v)):dM P f (lX E s):=by
 refine (jX (S:=fun args0 h0 n0 v1 h1 m=>∃ l r c,s l r=some (true,v1)∧args0=.slice (some ⟨0,0,none⟩) l.length c::r∧h0=[(0,.cells false true E.sz (flat E.fl l))]∧n0=1∧h1=[]∧m=0) hC ?_).mono ?_ ?_
 ·rintro args0 h0 n0 v1 h1 m ⟨l,r,c,e1,rfl,rfl,rfl,rfl,rfl⟩;obtain⟨a1,a2,a3⟩:=hs l r v1 e1;exact⟨rfl,_,a3 c,fun v h nx e=>by rw [e];exact mI a2⟩
 ·intro args h nx K hx;unfold lX at hx;split at hx
  case h_2=>exact hx.elim
  rename_i v r;obtain⟨l,hl,hx⟩:=hx;split at hx
  case h_2=>exact hx.elim
  rename_i p e1;obtain⟨b,u⟩:=p;obtain⟨rfl,hx⟩:=aG.1 hx;obtain⟨a1,a2,a3⟩:=hs l r u e1;have hK:K (iB (fun k=>nx+k) u) (app (lT nx []) (qW [] h)) (nx+0):=by
   simp only [qW,w8,lT,nQ,r5 a2,Nat.add_zero];exact hx
  unfold jQ at hl;split at hl
  ·rename_i n c;obtain⟨rfl,rfl,rfl⟩:=hl;exact⟨_,_,1,u,[],0,⟨[],r,0,e1,rfl,rfl,rfl,rfl,rfl⟩,RF a1 true E.sz E.pos,hK⟩
  ·rename_i k o n c;obtain⟨rfl,wr,g,sz,cs,hk,hcs⟩:=hl;exact⟨_,_,1,u,[],0,⟨l,r,c,e1,rfl,rfl,rfl,rfl,rfl⟩,ZH a1 hk hcs (aE E l) true E.sz E.pos,hK⟩
  ·exact hl.elim
 ·intro args h nx K hx;unfold lX at hx;split at hx
  case h_2=>exact hx.elim
  rename_i v r;obtain⟨l,hl,hx⟩:=hx;split at hx
  case h_2=>exact hx.elim
  rename_i p e1;obtain⟨hb,hx⟩:=aG.1 hx;exact⟨p.2,h,nx,hx,fun K' hk=>⟨l,hl,by rw [e1];exact aJ hb hk⟩⟩
end
end Go.Aw
end

noncomputable section
namespace Go.Aw
def aA:CP:={ A:=aF,T:=tyT,FT:=look ftL,PL:=plF,PR:=fun _=>false,X:=fun _=>none,M:=0 }
theorem jD:o8 Go.Proofs.Tryz.prog aA where
 ar:=rfl
 tab:=K4 ZG
 mixed:=by decide +kernel
 funcs:=M4
 xs:=fun _ _ h=>by cases h
def body (xl:List (Nat × XF)):VC:=rX aA none (CX (look xl)) noY
def m7 (xl:List (Nat × XF)):Prop:=∀ p∈xl,dM Go.Proofs.Tryz.prog p.1 p.2
theorem m7.nil:m7 []:=fun _ h=>by cases h
theorem m7.cons {f:Nat}{x:XF}{l:List (Nat × XF)}(h:dM Go.Proofs.Tryz.prog f x)(hl:m7 l):m7 ((f,x)::l):=List.forall_mem_cons.2 ⟨h,hl⟩
theorem m7.look {xl:List (Nat × XF)}(h:m7 xl)(f:Nat)(x:XF)(hx:look xl f=some x):dM Go.Proofs.Tryz.prog f x:=h (f,x) (bF hx)
theorem aO {xl:List (Nat × XF)}(h:m7 xl):bL Go.Proofs.Tryz.prog (body xl):=xY jD (aBq h.look) RL (LA h.look) CO none
def UU (p:Int × Int):Value:=.agg #[iv p.1,iv p.2]
def W7:Value→Option Int
 |.int .i64 n=>some n
 |_=>none
def RQ:Value→Option (Int × Int)
 |.agg ⟨[.int .i64 x,.int .i64 y]⟩=>some (x,y)
 |_=>none
theorem CH {v:Value}{n:Int}(h:W7 v=some n):v=iv n:=by
 unfold W7 at h;split at h
 ·injection h with h;subst h;rfl
 ·cases h
theorem xF {v:Value}{p:Int × Int}(h:RQ v=some p):v=UU p:=by
 unfold RQ at h;split at h
 ·injection h with h;subst h;rfl
 ·cases h
def s1P (F:Int × Int→Bool × Value):List Value→Option (Bool × Value)
 |[a]=>(match RQ a with|some p=>some (F p)|none=>none)
 |_=>none
theorem aE8 {F:Int × Int→Bool × Value}{args:List Value}{r:Bool × Value}(h:s1P F args=some r):∃ p,args=[UU p]∧F p=r:=by
 unfold s1P at h;split at h
 ·split at h
  ·rename_i p e;injection h with h;exact⟨p,by rw [xF e],h⟩
  ·cases h
 ·cases h
def s3P (F:Int × Int→Int × Int→Int × Int→Bool × Value):List Value→Option (Bool × Value)
 |[a,b,c]=>(match RQ a with|some p=>(match RQ b with|some q=>(match RQ c with|some r=>some (F p q r)|none=>none)|none=>none)|none=>none)
 |_=>none
theorem aDy {F:Int × Int→Int × Int→Int × Int→Bool × Value}{args:List Value}{r:Bool × Value}(h:s3P F args=some r):∃ p q s,args=[UU p,UU q,UU s]∧F p q s=r:=by
 unfold s3P at h;split at h
 ·split at h
  ·rename_i p e;split at h
   ·rename_i q e2;split at h
    ·rename_i s e3;injection h with h;exact⟨p,q,s,by rw [xF e,xF e2,xF e3],h⟩
    ·cases h
   ·cases h
  ·cases h
 ·cases h
def s1I (F:Int→Bool × Value):List Value→Option (Bool × Value)
 |[a]=>(match W7 a with|some p=>some (F p)|none=>none)
 |_=>none
theorem aDN {F:Int→Bool × Value}{args:List Value}{r:Bool × Value}(h:s1I F args=some r):∃ p,args=[iv p]∧F p=r:=by
 unfold s1I at h;split at h
 ·split at h
  ·rename_i p e;injection h with h;exact⟨p,by rw [CH e],h⟩
  ·cases h
 ·cases h
def s2I (F:Int→Int→Bool × Value):List Value→Option (Bool × Value)
 |[a,b]=>(match W7 a with|some p=>(match W7 b with|some q=>some (F p q)|none=>none)|none=>none)
 |_=>none
theorem aDx {F:Int→Int→Bool × Value}{args:List Value}{r:Bool × Value}(h:s2I F args=some r):∃ p q,args=[iv p,iv q]∧F p q=r:=by
 unfold s2I at h;split at h
 ·split at h
  ·rename_i p e;split at h
   ·rename_i q e2;injection h with h;exact⟨p,q,by rw [CH e,CH e2],h⟩
   ·cases h
  ·cases h
 ·cases h
def fB (xl:List (Nat × XF))(f:Nat)(args:List Value)(v:Value):Prop:=body xl f args [] 0 (fun u _ _=>u=v)
theorem x1P {xl:List (Nat × XF)}(hx:m7 xl){f:Nat}{F:Int × Int→Bool × Value}(hg:∀ p,gT (F p).2=true)(h:∀ p,(F p).1=true→fB xl f [UU p] (F p).2):dM Go.Proofs.Tryz.prog f (gX (s1P F)) :=
 sC (aO hx) fun args v hs=>by
  obtain⟨p,rfl,e⟩:=aE8 hs;have h1:(F p).1=true:=(by rw [e]);have h2:(F p).2=v:=(by rw [e]);subst h2;exact⟨rfl,hg p,h p h1⟩
theorem x3P {xl:List (Nat × XF)}(hx:m7 xl){f:Nat}{F:Int × Int→Int × Int→Int × Int→Bool × Value}(hg:∀ p q r,gT (F p q r).2=true)(h:∀ p q r,(F p q r).1=true→fB xl f [UU p,UU q,UU r] (F p q r).2):dM Go.Proofs.Tryz.prog f (gX (s3P F)) :=
 sC (aO hx) fun args v hs=>by
  obtain⟨p,q,r,rfl,e⟩:=aDy hs;have h1:(F p q r).1=true:=(by rw [e]);have h2:(F p q r).2=v:=(by rw [e]);subst h2;exact⟨rfl,hg p q r,h p q r h1⟩
theorem x1I {xl:List (Nat × XF)}(hx:m7 xl){f:Nat}{F:Int→Bool × Value}(hg:∀ p,gT (F p).2=true)(h:∀ p,(F p).1=true→fB xl f [iv p] (F p).2):dM Go.Proofs.Tryz.prog f (gX (s1I F)) :=
 sC (aO hx) fun args v hs=>by
  obtain⟨p,rfl,e⟩:=aDN hs;have h1:(F p).1=true:=(by rw [e]);have h2:(F p).2=v:=(by rw [e]);subst h2;exact⟨rfl,hg p,h p h1⟩
theorem x2I {xl:List (Nat × XF)}(hx:m7 xl){f:Nat}{F:Int→Int→Bool × Value}(hg:∀ p q,gT (F p q).2=true)(h:∀ p q,(F p q).1=true→fB xl f [iv p,iv q] (F p q).2):dM Go.Proofs.Tryz.prog f (gX (s2I F)) :=
 sC (aO hx) fun args v hs=>by
  obtain⟨p,q,rfl,e⟩:=aDx hs;have h1:(F p q).1=true:=(by rw [e]);have h2:(F p q).2=v:=(by rw [e]);subst h2;exact⟨rfl,hg p q,h p q h1⟩
def aZ:El (Int × Int):=⟨fun p=>[iv p.1,iv p.2],2,fun _=>rfl,fun _=>rfl,by decide⟩
def cG (p:Int × Int):Bool:=decide (0≤p.1)&&decide (p.1≤10000)&&decide (0≤p.2)&&decide (p.2≤10000)
def wide (p:Int × Int):Bool:=decide (-1000000≤p.1)&&decide (p.1≤1000000)&&decide (-1000000≤p.2)&&decide (p.2≤1000000)
def bE (a b c:Int × Int):Int:=(b.1 - a.1)*(c.2 - a.2) - (b.2 - a.2)*(c.1 - a.1)
def sgn (n:Int):Int:=if n<0 then -1 else if 0<n then 1 else 0
def gY (a b:Int):Int:=if a<b then -1 else if b<a then 1 else 0
def bB (a b c:Int × Int):Int:=sgn (bE a b c)
set_option maxRecDepth 100000
def X58:Nat × XF:=(185,gX (s1P fun p=>(true,.bool (cG p))))
theorem x58:dM Go.Proofs.Tryz.prog X58.1 X58.2:=x1P .nil (fun _=>rfl) fun p _=>by
 obtain⟨x,y⟩:=p;unfold fB
 repeat' (conv=>whnf
          refine bm (fun h=>?_) (fun h=>?_))
 all_goals (conv=>whnf)
 all_goals (simp [aA,aF] at *;simp [cG, *] <;> omega)
theorem WJ {a b A B:Int}(h1 : -A≤a)(h2:a≤A)(h3 : -B≤b)(h4:b≤B) : -(A*B)≤a*b∧a*b≤A*B:=by
 have e1:=Int.mul_nonneg (show 0≤A - a by omega) (show 0≤B+b by omega);have e2:=Int.mul_nonneg (show 0≤A+a by omega) (show 0≤B - b by omega);have e3:=Int.mul_nonneg (show 0≤A - a by omega) (show 0≤B - b by omega);have e4:=Int.mul_nonneg (show 0≤A+a by omega) (show 0≤B+b by omega);simp only [Int.sub_mul,Int.mul_sub,Int.add_mul,Int.mul_add] at e1 e2 e3 e4;omega
set_option maxRecDepth 100000
def aFw:Nat × XF:=(221,gX (s1I fun p=>(true,.bool false)))
theorem aJP:dM Go.Proofs.Tryz.prog aFw.1 aFw.2:=x1I .nil (fun _=>rfl) fun p _=>by
 unfold fB
 repeat' (conv=>whnf
          refine bm (fun h=>?_) (fun h=>?_))
 all_goals (conv=>whnf)
 all_goals (simp [aA,aF] at *)
def QA:Nat × XF:=(179,gX (s2I fun p q=>(true,iv (gY p q))))
theorem W3:dM Go.Proofs.Tryz.prog QA.1 QA.2:=x2I (xl:=[aFw]) (.cons aJP .nil) (fun _ _=>rfl) fun p q _=>by
 unfold fB
 repeat' (conv=>whnf
          refine bm (fun h=>?_) (fun h=>?_))
 all_goals (conv=>whnf)
 all_goals (simp [aA,aF] at *;simp [gY,iv] <;> omega)
def aGP:Nat × XF:=(249,gX (s3P fun a b c=>(wide a&&wide b&&wide c,iv (bE a b c))))
theorem aKh:dM Go.Proofs.Tryz.prog aGP.1 aGP.2:=x3P .nil (fun _ _ _=>rfl) fun a b c hp=>by
 obtain⟨ax,ay⟩:=a;obtain⟨bx,b_y⟩:=b;obtain⟨cx,cy⟩:=c;simp only [wide,Bool.and_eq_true,decide_eq_true_eq] at hp;have m1:=WJ (a:=bx - ax) (b:=cy - ay) (A:=2000000) (B:=2000000) (by omega) (by omega) (by omega) (by omega);have m2:=WJ (a:=b_y - ay) (b:=cx - ax) (A:=2000000) (B:=2000000) (by omega) (by omega) (by omega) (by omega);unfold fB
 repeat' (conv=>whnf
          refine bm (fun h=>?_) (fun h=>?_))
 all_goals (conv=>whnf)
 all_goals (simp [aA,aF,aI] at *)
 all_goals first|omega|simp [bE,iv]
def X55:Nat × XF:=(224,gX (s3P fun a b c=>(wide a&&wide b&&wide c,iv (bB a b c))))
theorem x55:dM Go.Proofs.Tryz.prog X55.1 X55.2:=x3P (xl:=[QA,aGP]) (.cons W3 (.cons aKh .nil)) (fun _ _ _=>rfl) fun a b c hp=>by
 obtain⟨ax,ay⟩:=a;obtain⟨bx,b_y⟩:=b;obtain⟨cx,cy⟩:=c;unfold fB
 repeat' (conv=>whnf
          refine bm (fun h=>?_) (fun h=>?_))
 all_goals (conv=>whnf)
 all_goals (simp at *)
 ·simp [bB,gY,sgn,iv]
 ·simp_all
def X17:Nat × XF:=(112,gX (s1P fun p=>(true,iv (if cG p then 0 else 1))))
theorem x17:dM Go.Proofs.Tryz.prog X17.1 X17.2:=x1P (xl:=[X58]) (.cons x58 .nil) (fun _=>rfl) fun p _=>by
 obtain⟨x,y⟩:=p;unfold fB
 repeat' (conv=>whnf
          refine bm (fun h=>?_) (fun h=>?_))
 all_goals (conv=>whnf)
 all_goals (simp [aA,aF] at *;simp [iv, *])
theorem nM {p:Int × Int}(h:cG p=true):wide p=true:=by
 simp only [cG,wide,Bool.and_eq_true,decide_eq_true_eq] at *;omega
end Go.Aw
end

noncomputable section
namespace Go.Aw
set_option maxRecDepth 100000
def s0 (v:Value):List Value→Option (Bool × Value)
 |[]=>some (true,v)
 |_=>none
theorem QO (a b c:Int × Int):bE b a c = - bE a b c:=by
 simp only [bE,Int.sub_mul,Int.mul_sub];have h1:=Int.mul_comm a.1 b.2;have h2:=Int.mul_comm a.2 b.1;have h3:=Int.mul_comm a.1 c.2;have h4:=Int.mul_comm a.2 c.1;have h5:=Int.mul_comm b.1 c.2;have h6:=Int.mul_comm b.2 c.1;have h7:=Int.mul_comm a.1 a.2;have h8:=Int.mul_comm b.1 b.2;omega
theorem yA (a b c:Int × Int) : -1≤bB a b c∧bB a b c≤1:=by
 unfold bB sgn;split <;> (try split) <;> omega
end Go.Aw
end

namespace Go.Aw
theorem jS {D u:Int}(hD:0<D)(h:0≤D*u):0≤u:=by
 by_cases hu:0≤u
 ·exact hu
 ·have:0<D*(-u):=Int.mul_pos hD (by omega);rw [Int.mul_neg] at this;omega
theorem aIF {D E t u:Int}(h:D*u=E*t)(hD:0<D)(h0:0≤t)(h1:t≤D):(0≤E→0≤u∧u≤E)∧(E≤0→E≤u∧u≤0):=by
 refine⟨fun hE=>⟨?_,?_⟩,fun hE=>⟨?_,?_⟩⟩
 ·exact jS hD (by rw [h];exact Int.mul_nonneg hE h0)
 ·have h2:0≤D*(E - u):=by
   rw [Int.mul_sub,h,Int.mul_comm D E,← Int.mul_sub];exact Int.mul_nonneg hE (by omega)
  have:=jS hD h2;omega
 ·have h2:0≤D*(u - E):=by
   rw [Int.mul_sub,h,Int.mul_comm D E,← Int.mul_sub];rw [show E*(t - D)=(-E)*(D - t) by rw [Int.neg_mul,← Int.mul_neg];congr 1;omega];exact Int.mul_nonneg (by omega) (by omega)
  have:=jS hD h2;omega
 ·have h2:0≤D*(-u):=by
   rw [Int.mul_neg,h,← Int.neg_mul];exact Int.mul_nonneg (by omega) h0
  have:=jS hD h2;omega
theorem aAV {D u:Int}(h:D*u=0)(hD:D≠0):u=0:=by
 rcases Int.mul_eq_zero.1 h with h|h
 ·exact absurd h hD
 ·exact h
theorem UE {ax ay bx b2 px py:Int}(h:(bx - ax)*(py - ay)=(b2 - ay)*(px - ax))(hlt:ax<bx) :
  ((ax<px∨(ax=px∧ay≤py))∧(px<bx∨(px=bx∧py≤b2)))↔((ax≤px∧px≤bx)∧((ay≤b2→ay≤py∧py≤b2)∧(b2≤ay→b2≤py∧py≤ay))):=by
 constructor
 ·intro⟨h1,h2⟩;have hx:ax≤px∧px≤bx:=(by omega);have hc:=aIF (D:=bx - ax) (E:=b2 - ay) (t:=px - ax) (u:=py - ay) h (by omega) (by omega) (by omega);refine⟨hx,fun he=>?_,fun he=>?_⟩
  ·have:=hc.1 (by omega);omega
  ·have:=hc.2 (by omega);omega
 ·intro⟨h1,h2,h3⟩;have hc:=aIF (D:=bx - ax) (E:=b2 - ay) (t:=px - ax) (u:=py - ay) h (by omega) (by omega) (by omega);refine⟨?_,?_⟩
  ·by_cases e:ax<px
   ·exact .inl e
   ·have e:ax=px:=(by omega);subst e;rw [Int.sub_self,Int.mul_zero] at h;have:=aAV h (by omega);exact .inr ⟨rfl,by omega⟩
  ·by_cases e:px<bx
   ·exact .inl e
   ·have e:px=bx:=(by omega);subst e;have h4:(px - ax)*(py - b2)=0:=by
     rw [show py - b2=(py - ay) - (b2 - ay) by omega,Int.mul_sub,h,Int.mul_comm (b2 - ay)];omega
    have:=aAV h4 (by omega);exact .inr ⟨rfl,by omega⟩
end Go.Aw

noncomputable section
namespace Go.Aw
set_option maxRecDepth 100000
structure Cd (α:Type) where
 dec:Value→Option α
 enc:α→Value
 ok:∀ v a,dec v=some a→v=enc a
 gr:∀ a,gA (enc a)=true
def cI:Cd Int:=⟨W7,iv,fun _ _ h=>CH h,fun _=>rfl⟩
def cP:Cd (Int × Int):=⟨RQ,UU,fun _ _ h=>xF h,fun _=>rfl⟩
abbrev Sg:=(Int × Int) × (Int × Int)
def sgv (s:Sg):Value:=.agg #[iv s.1.1,iv s.1.2,iv s.2.1,iv s.2.2]
def aFz:Value→Option Sg
 |.agg ⟨[.int .i64 a,.int .i64 b,.int .i64 c,.int .i64 d]⟩=>some ((a,b),(c,d))
 |_=>none
theorem aDq {v:Value}{s:Sg}(h:aFz v=some s):v=sgv s:=by
 unfold aFz at h;split at h
 ·injection h with h;subst h;rfl
 ·cases h
def cS:Cd Sg:=⟨aFz,sgv,fun _ _ h=>aDq h,fun _=>rfl⟩
section
variable {α β γ:Type}(a:Cd α)(b:Cd β)(c:Cd γ)
def s1 (F:α→Bool × Value):List Value→Option (Bool × Value)
 |[u]=>(match a.dec u with|some x=>some (F x)|none=>none)
 |_=>none
def s2 (F:α→β→Bool × Value):List Value→Option (Bool × Value)
 |[u,v]=>(match a.dec u with|some x=>(match b.dec v with|some y=>some (F x y)|none=>none)|none=>none)
 |_=>none
def s3 (F:α→β→γ→Bool × Value):List Value→Option (Bool × Value)
 |[u,v,w]=>(match a.dec u with|some x=>(match b.dec v with|some y=>(match c.dec w with|some z=>some (F x y z)|none=>none)|none=>none)|none=>none)
 |_=>none
theorem aGo {F:α→Bool × Value}{args:List Value}{r:Bool × Value}(h:s1 a F args=some r):∃ x,args=[a.enc x]∧F x=r:=by
 unfold s1 at h;split at h
 ·split at h
  ·rename_i x e;injection h with h;exact⟨x,by rw [a.ok _ _ e],h⟩
  ·cases h
 ·cases h
theorem aH9 {F:α→β→Bool × Value}{args:List Value}{r:Bool × Value}(h:s2 a b F args=some r):∃ x y,args=[a.enc x,b.enc y]∧F x y=r:=by
 unfold s2 at h;split at h
 ·split at h
  ·rename_i x e;split at h
   ·rename_i y e2;injection h with h;exact⟨x,y,by rw [a.ok _ _ e,b.ok _ _ e2],h⟩
   ·cases h
  ·cases h
 ·cases h
theorem aGR {F:α→β→γ→Bool × Value}{args:List Value}{r:Bool × Value}(h:s3 a b c F args=some r):∃ x y z,args=[a.enc x,b.enc y,c.enc z]∧F x y z=r:=by
 unfold s3 at h;split at h
 ·split at h
  ·rename_i x e;split at h
   ·rename_i y e2;split at h
    ·rename_i z e3;injection h with h;exact⟨x,y,z,by rw [a.ok _ _ e,b.ok _ _ e2,c.ok _ _ e3],h⟩
    ·cases h
   ·cases h
  ·cases h
 ·cases h
theorem x1 {xl:List (Nat × XF)}(hx:m7 xl){f:Nat}{F:α→Bool × Value}(hg:∀ x,gT (F x).2=true)(h:∀ x,(F x).1=true→fB xl f [a.enc x] (F x).2):dM Go.Proofs.Tryz.prog f (gX (s1 a F)) :=
 sC (aO hx) fun args v hs=>by
  obtain⟨x,rfl,e⟩:=aGo a hs;have h1:(F x).1=true:=(by rw [e]);have h2:(F x).2=v:=(by rw [e]);subst h2;exact⟨by simp [fC,a.gr],hg x,h x h1⟩
theorem x2 {xl:List (Nat × XF)}(hx:m7 xl){f:Nat}{F:α→β→Bool × Value}(hg:∀ x y,gT (F x y).2=true)(h:∀ x y,(F x y).1=true→fB xl f [a.enc x,b.enc y] (F x y).2):dM Go.Proofs.Tryz.prog f (gX (s2 a b F)) :=
 sC (aO hx) fun args v hs=>by
  obtain⟨x,y,rfl,e⟩:=aH9 a b hs;have h1:(F x y).1=true:=(by rw [e]);have h2:(F x y).2=v:=(by rw [e]);subst h2;exact⟨by simp [fC,a.gr,b.gr],hg x y,h x y h1⟩
theorem x3 {xl:List (Nat × XF)}(hx:m7 xl){f:Nat}{F:α→β→γ→Bool × Value}(hg:∀ x y z,gT (F x y z).2=true)(h:∀ x y z,(F x y z).1=true→fB xl f [a.enc x,b.enc y,c.enc z] (F x y z).2):dM Go.Proofs.Tryz.prog f (gX (s3 a b c F)) :=
 sC (aO hx) fun args v hs=>by
  obtain⟨x,y,z,rfl,e⟩:=aGR a b c hs;have h1:(F x y z).1=true:=(by rw [e]);have h2:(F x y z).2=v:=(by rw [e]);subst h2;exact⟨by simp [fC,a.gr,b.gr,c.gr],hg x y z,h x y z h1⟩
end
def aIk (xl:List (Nat × XF))(n:Nat):VC:=rX aA (some n) (CX (look xl)) noY
theorem PS {xl:List (Nat × XF)}(h:m7 xl)(n:Nat):bL Go.Proofs.Tryz.prog (aIk xl n):=xY jD (aBq h.look) RL (LA h.look) CO (some n)
def aL:El Int:=⟨fun n=>[iv n],1,fun _=>rfl,fun _=>rfl,by decide⟩
def YO (a b:Int):Int:=if a=0 then b else a
def aJc:List Int→List Value→Option (Bool × Value)
 |[a,b],[]=>some (true,iv (YO a b))
 |_,_=>none
def aBV:Nat × XF:=(178,lX aL aJc)
theorem aHf:dM Go.Proofs.Tryz.prog aBV.1 aBV.2:=M0 aL (PS (xl:=[]) .nil 4) fun l r v hs=>by
 have:∃ a b,l=[a,b]∧r=[]∧v=iv (YO a b):=by
  unfold aJc at hs;split at hs
  ·injection hs with hs;injection hs with _ h2;exact⟨_,_,rfl,rfl,h2.symm⟩
  ·cases hs
 obtain⟨a,b,rfl,rfl,rfl⟩:=this;refine⟨rfl,rfl,fun c=>?_⟩
 repeat' (conv=>whnf
          refine bm (fun h=>?_) (fun h=>?_))
 all_goals (conv=>whnf)
 all_goals (simp only [aA,aF,iv,YO] at *;simp at *)
 all_goals (try simp_all)
theorem XJ (p:Int × Int):(p.1,p.2)=p:=rfl
def j3 (a b:Int × Int):Int:=YO (gY a.1 b.1) (gY a.2 b.2)
def Y7:Nat × XF:=(194,gX (s2 cP cP fun a b=>(true,iv (j3 a b))))
theorem aEb:dM Go.Proofs.Tryz.prog Y7.1 Y7.2:=x2 cP cP (xl:=[QA,aBV]) (.cons W3 (.cons aHf .nil)) (fun _ _=>rfl) fun a b _=>by
 obtain⟨ax,ay⟩:=a;obtain⟨bx,b_y⟩:=b;unfold fB
 conv=>whnf
 refine⟨[gY ax bx,gY ay b_y],⟨rfl,_,_,_,_,rfl,rfl⟩,?_⟩
 conv=>whnf
 rfl
def bU (s:Sg):(Int × Int) × (Int × Int):=if 0<j3 s.1 s.2 then (s.2,s.1) else (s.1,s.2)
def X74:Nat × XF:=(225,gX (s1 cS fun s=>(true,.tuple #[UU (bU s).1,UU (bU s).2])))
theorem x74:dM Go.Proofs.Tryz.prog X74.1 X74.2:=x1 cS (xl:=[Y7]) (.cons aEb .nil) (fun _=>rfl) fun s _=>by
 obtain⟨⟨ax,ay⟩,⟨bx,b_y⟩⟩:=s;unfold fB
 repeat' (conv=>whnf
          refine bm (fun h=>?_) (fun h=>?_))
 all_goals (conv=>whnf)
 all_goals (simp only [aA,aF,decide_eq_true_eq,decide_eq_false_iff_not] at h)
 ·simp [bU,h,UU,iv]
 ·simp [bU,h,UU,iv]
def G9 (p:Int × Int)(s:Sg):Bool:=decide (j3 (bU s).1 p≤0)&&decide (j3 p (bU s).2≤0)
def aGy:Nat × XF:=(250,gX (s2 cP cS fun p s=>(true,.bool (G9 p s))))
theorem aKr:dM Go.Proofs.Tryz.prog aGy.1 aGy.2:=x2 cP cS (xl:=[Y7,X74]) (.cons aEb (.cons x74 .nil)) (fun _ _=>rfl) fun p s _=>by
 obtain⟨px,py⟩:=p;obtain⟨⟨ax,ay⟩,⟨bx,b_y⟩⟩:=s;unfold fB
 repeat' (conv=>whnf
          refine bm (fun h=>?_) (fun h=>?_))
 all_goals (conv=>whnf)
 all_goals (simp only [aA,aF,XJ] at *;simp at h ⊢;simp [G9, *] <;> omega)
def uS (s:Sg):Bool:=wide s.1&&wide s.2
def onS (p:Int × Int)(s:Sg):Bool:=decide (bB s.1 s.2 p=0)&&G9 p s
def X65:Nat × XF:=(226,gX (s2 cP cS fun p s=>(wide p&&uS s,.bool (onS p s))))
theorem x65:dM Go.Proofs.Tryz.prog X65.1 X65.2:=x2 cP cS (xl:=[X55,aGy]) (.cons x55 (.cons aKr .nil)) (fun _ _=>rfl) fun p s hp=>by
 obtain⟨px,py⟩:=p;obtain⟨⟨ax,ay⟩,⟨bx,b_y⟩⟩:=s;simp only [uS,Bool.and_eq_true] at hp;unfold fB
 repeat' (conv=>whnf
          refine bm (fun h=>?_) (fun h=>?_))
 all_goals (conv=>whnf)
 all_goals (simp only [aA,aF,XJ] at *;(try simp at h);(try simp);(try simp_all [onS]))
def j5 (a b:Int × Int):Bool:=decide (a.1=b.1)&&(decide (a.2=b.2)&&true)
def eI (s:Sg):Bool:=cG s.1&&cG s.2&&!(j5 s.1 s.2)
def X64:Nat × XF:=(191,gX (s1 cS fun s=>(true,.bool (eI s))))
theorem x64:dM Go.Proofs.Tryz.prog X64.1 X64.2:=x1 cS (xl:=[X58]) (.cons x58 .nil) (fun _=>rfl) fun s _=>by
 obtain⟨⟨ax,ay⟩,⟨bx,b_y⟩⟩:=s;unfold fB
 repeat' (conv=>whnf
          refine bm (fun h=>?_) (fun h=>?_))
 all_goals (conv=>whnf)
 all_goals (simp [aA,aF,j5] at *;simp [eI,j5, *])
def OnS (p:Int × Int)(s:Sg):Bool:=cG p&&eI s&&onS p s
theorem BD {s:Sg}(h:eI s=true):uS s=true:=by
 simp only [eI,uS,Bool.and_eq_true] at *;exact⟨nM h.1.1,nM h.1.2⟩
def X20:Nat × XF:=(199,gX (s2 cP cS fun p s=>(true,.bool (OnS p s))))
theorem x20:dM Go.Proofs.Tryz.prog X20.1 X20.2:=x2 cP cS (xl:=[X58,X64,X65]) (.cons x58 (.cons x64 (.cons x65 .nil))) (fun _ _=>rfl) fun p s hp=>by
 obtain⟨px,py⟩:=p;obtain⟨⟨ax,ay⟩,⟨bx,b_y⟩⟩:=s;unfold fB
 repeat' (conv=>whnf
          refine bm (fun h=>?_) (fun h=>?_))
 all_goals (conv=>whnf)
 all_goals (simp [aA,aF] at *)
 all_goals first|(simp [OnS, *];done)|(simp_all [OnS,nM,BD];done)
theorem mN {α:Type}(E:El α)(l:List α){i k o:Nat}{v:Value}(hi:i<l.length)(hk:(E.fl l[i])[k]? = some v)(hks:k<E.sz)(ho:o=i*E.sz+k):nth (flat E.fl l) o=some v:=by
 subst ho;have h1:=KM E l i hi;rw [rV,← hk,← h1,List.getElem?_take_of_lt hks,List.getElem?_drop]
def mx (a b:Int):Int:=if a<b then b else a
theorem zJ (a b:Int):aA.A.add a b=a+b:=rfl
theorem vY (a b:Int):aA.A.sub a b=a - b:=rfl
theorem Y3 (a b:Int):aA.A.mul a b=a*b:=rfl
theorem nO (a b:Int):aA.A.lt a b=decide (a<b):=rfl
theorem IW (a b:Int):aA.A.le a b=decide (a≤b):=rfl
theorem A9 (a b:Int):aA.A.eq a b=decide (a=b):=rfl
theorem pX (k:IntKind)(a:Int):aA.A.fits k a=aI k a:=rfl
theorem lI (a:Nat):aA.A.num a=(a:Int):=rfl
theorem tG (a b:Bool):aA.A.andB a b=(a&&b):=rfl
theorem nJ (a:Bool):aA.A.notB a=!a:=rfl
theorem LJ (a b:Bool):aA.A.eqB a b=(a == b):=rfl
def tQ (l:List (Int × Int))(i:Nat):Int × Int:=l.getD i (0,0)
theorem J0 {l:List (Int × Int)}{i:Nat}(h:i<l.length):tQ l i=l[i]:=by
 unfold tQ;rw [List.getD_eq_getElem?_getD,List.getElem?_eq_getElem h];rfl
def N3 (s t:Sg):Int × Int:=if j3 (bU s).1 (bU t).1<0 then (bU t).1 else (bU s).1
def BG (s t:Sg):Int × Int:=if j3 (bU t).2 (bU s).2<0 then (bU t).2 else (bU s).2
def aE5 (o:Int):Int:=if o = -1 then 4 else if o=0 then 1 else 0
def TO (a b c d:Int):Int :=
 if 0<a*b∨0<c*d then 0
 else if (c=0∨d=0)∧(a=0∨b=0) then 1
 else if (c=0∨d=0)∨(a=0∨b=0) then 2
 else 3
def qL (s t:Sg):Int :=
 if bB s.1 s.2 t.1=0∧bB s.1 s.2 t.2=0 then aE5 (j3 (N3 s t) (BG s t))
 else TO (bB s.1 s.2 t.1) (bB s.1 s.2 t.2) (bB t.1 t.2 s.1) (bB t.1 t.2 s.2)
def u8 (n:Int):Value:=.int .u8 n
theorem xP (a b:Int × Int):j3 a b = -1∨j3 a b=0∨j3 a b=1:=by
 unfold j3 YO gY;split <;> split <;> (try split) <;> (try split) <;> omega
theorem aCT {o:Int}(h:o = -1∨o=0∨o=1){k:Nat}(hk:k=(o+1).toNat):nth [u8 4,u8 1,u8 0] k=some (u8 (aE5 o)):=by
 subst hk;rcases h with rfl|rfl|rfl <;> rfl
theorem aDH (a b:Int × Int):aA.A.fits .i64 (aA.A.add (j3 a b) 1)=true:=by
 rcases xP a b with e|e|e <;> rw [e] <;> rfl
theorem aGn (a b:Int × Int):aA.A.andB (aA.A.le 0 (aA.A.add (j3 a b) 1)) (aA.A.lt (aA.A.add (j3 a b) 1) (aA.A.num 3))=true:=by
 rcases xP a b with e|e|e <;> rw [e] <;> rfl
def X68:Nat × XF:=(189,gX (s2 cS cS fun s t=>(uS s&&uS t,u8 (qL s t))))
theorem x68:dM Go.Proofs.Tryz.prog X68.1 X68.2:=x2 cS cS (xl:=[X55,X74,Y7]) (.cons x55 (.cons x74 (.cons aEb .nil))) (fun _ _=>rfl) fun s t hp=>by
 obtain⟨⟨ax,ay⟩,⟨bx,b2⟩⟩:=s;obtain⟨⟨cx,cy⟩,⟨dx,dy⟩⟩:=t;have l1:=yA (ax,ay) (bx,b2) (cx,cy);have l2:=yA (ax,ay) (bx,b2) (dx,dy);have l3:=yA (cx,cy) (dx,dy) (ax,ay);have l4:=yA (cx,cy) (dx,dy) (bx,b2);have m1:=WJ (A:=1) (B:=1) l1.1 l1.2 l2.1 l2.2;have m2:=WJ (A:=1) (B:=1) l3.1 l3.2 l4.1 l4.2;simp only [uS,Bool.and_eq_true] at hp;unfold fB
 repeat' (conv=>whnf
          refine bm (fun h=>?_) (fun h=>?_))
 all_goals (try (refine eP (aCT (xP _ _) (by show 0+(_+1:Int).toNat*1=_;rw [Nat.zero_add,Nat.mul_one])) ?_))
 all_goals (try (conv=>whnf))
 all_goals (clear l3 l4)
 all_goals first
  |(show _=_
    simp only [zJ,Y3,nO,A9,pX,LJ,tG,nJ,IW,lI,aI,XJ,Bool.and_eq_true,beq_iff_eq,beq_eq_false_iff_ne,ne_eq,decide_eq_true_eq,decide_eq_false_iff_not,not_and,Bool.not_eq_true',Bool.not_eq_false'] at *;simp only [qL,TO,N3,BG]
    simp_all [u8,iv]
    done)
  |(show _=_
    simp only [nO,A9,LJ,XJ,beq_iff_eq,decide_eq_true_eq,decide_eq_false_iff_not] at *;simp only [qL,N3,BG, *,and_self,if_true,if_false]
    done)
  |(rw [aDH] at h;cases h)
  |(rw [aGn] at h;cases h)
  |(simp [hp] at h;done)
  |(simp only [Y3,pX,aI,XJ,Bool.eq_false_iff,ne_eq,Bool.and_eq_true,decide_eq_true_eq] at h;omega)
  |skip
 trace_state
def btw (n a b:Int):Bool:=decide ((if b<a then b else a)≤n)&&decide (n≤(if a<b then b else a))
def yF (p:Int × Int)(s:Sg):Bool:=btw p.1 s.1.1 s.2.1&&btw p.2 s.1.2 s.2.2&&decide (bB s.1 s.2 p=0)
theorem xG (a b:Int × Int):j3 a b≤0↔a.1<b.1∨(a.1=b.1∧a.2≤b.2):=by
 unfold j3 YO gY;split <;> split <;> (try split) <;> (try split) <;> omega
theorem lN (a b c:Int × Int):bB a b c=0↔bE a b c=0:=by
 unfold bB sgn;split <;> (try split) <;> omega
theorem V9 (p:Int × Int)(s:Sg)(h:eI s=true):onS p s=yF p s:=by
 obtain⟨px,py⟩:=p;obtain⟨⟨ax,ay⟩,⟨bx,b2⟩⟩:=s;have hne:¬ (ax=bx∧ay=b2):=by
  simp only [eI,j5,Bool.and_eq_true,Bool.not_eq_true',Bool.and_true,Bool.and_eq_false_imp,decide_eq_true_eq,decide_eq_false_iff_not] at h;intro⟨e1,e2⟩;exact h.2 e1 e2
 clear h;unfold onS yF G9;by_cases hc:bB (ax,ay) (bx,b2) (px,py)=0
 ·have hcr:=(lN _ _ _).1 hc;simp only [bE] at hcr;rw [decide_eq_true hc,Bool.true_and,Bool.and_true,Bool.eq_iff_iff];simp only [btw,Bool.and_eq_true,decide_eq_true_eq,xG];by_cases h1:ax<bx
  ·have he:bU ((ax,ay),(bx,b2))=((ax,ay),(bx,b2)):=by
    unfold bU;rw [if_neg];have:=(xG (ax,ay) (bx,b2)).2 (.inl h1);simp only at *;omega
   rw [he];have hb:=UE (ax:=ax) (ay:=ay) (bx:=bx) (b2:=b2) (px:=px) (py:=py) (by omega) h1;simp only at *;rw [hb];omega
  ·by_cases h2:bx<ax
   ·have he:bU ((ax,ay),(bx,b2))=((bx,b2),(ax,ay)):=by
     unfold bU;rw [if_pos];have:=(xG (ax,ay) (bx,b2));simp only at *;omega
    rw [he];have hsw:=QO (ax,ay) (bx,b2) (px,py);simp only [bE] at hsw;have hb:=UE (ax:=bx) (ay:=b2) (bx:=ax) (b2:=ay) (px:=px) (py:=py) (by omega) h2;simp only at *;rw [hb];omega
   ·have hx:ax=bx:=(by omega);subst hx;have hE:b2 - ay≠0:=(by omega);rw [Int.sub_self,Int.zero_mul] at hcr;have ht:px - ax=0:=aAV (D:=b2 - ay) (by omega) hE;have hpx:px=ax:=(by omega);subst hpx;by_cases h3:ay<b2
    ·have he:bU ((px,ay),(px,b2))=((px,ay),(px,b2)):=by
      unfold bU;rw [if_neg];have:=(xG (px,ay) (px,b2)).2 (.inr ⟨rfl,by omega⟩);simp only at *;omega
     rw [he];have h4:¬ (b2<ay):=(by omega);simp only [Int.lt_irrefl,if_false,h3,h4,if_true];simp
    ·have he:bU ((px,ay),(px,b2))=((px,b2),(px,ay)):=by
      unfold bU;rw [if_pos];have:=(xG (px,ay) (px,b2));simp only at *;omega
     rw [he];have h4:b2<ay:=(by omega);simp only [Int.lt_irrefl,if_false,h3,h4,if_true];simp
 ·simp [hc]
end Go.Aw
end
