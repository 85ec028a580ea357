/-
  Parts of a proof. No condition.
-/
import Derived.Test.YticajjhjehljpaaGreatQAc
import Derived.Laws.MakeOwn
set_option linter.unusedSimpArgs false
set_option linter.unusedVariables false
noncomputable section
namespace Go.Aw
open Go.RowKit
def vhi (A:Ar)(n c:Nat)(hi:Option Value)(G:Nat→Prop):Prop :=
 match hi with
 |none=>G n
 |some (.int _ i)=>dI (A.andB (A.le 0 i) (A.le i (A.num c))) (G (A.fD i))
 |_=>False
def isZero:Option Value→Bool
 |none=>true
 |some (.int _ 0)=>true
 |_=>false
def V9 (h:Heap)(nx k q r:Nat):Heap:=match look h k with
 |some (.cells true g sz cs)=>(match Nat.ble (q+r) cs.length with|true=>cC (rem h k) nx (.cells true g sz ((cs.drop q).take r))|false=>h)
 |some (.cells false g sz cs)=>cC h nx (.cells false g sz ((cs.drop q).take r))
 |_=>h
def rF (A:Ar)(T:cF)(h:Heap)(nx:Nat)(t:TypeId)(x:Value)(lo hi mx:Option Value)(K:KE):Prop :=
 match look T t with
 |some { kind:=.sl e,.. } =>
  (match look T e with
  |none=>False
  |some ei =>
   match x,mx with
   |.slice none 0 0,none=>(match isZero lo,isZero hi with|true,true=>K (.slice none 0 0) h nx|_,_=>False)
   |.slice (some ⟨k,o,none⟩) n c,none =>
    vhi A n c hi fun hN =>
     (match lo with
     |none=>K (.slice (some ⟨k,o,none⟩) hN c) h nx
     |some (.int _ l)=>dI (A.andB (A.andB (A.le 0 l) (A.le l (A.num hN))) (A.le (A.num hN) (A.num c)))
      (match look h k with
      |some (.cells _ _ _ _)=>br (A.lt l (A.num c)) (fun _=>K (.slice (some ⟨k,A.ix o l ei.size,none⟩) (A.subN hN (A.fD l)) (A.subN c (A.fD l))) h nx) (fun _=>K (.slice (some ⟨nx,0,none⟩) 0 0) h (nx+1))
      |_=>False)
     |_=>False)
   |.slice (some ⟨k,o,none⟩) n c,some (.int _ 0) =>
    (match isZero lo,hi with|true,some (.int _ 0)=>K (.slice (some ⟨nx,0,none⟩) 0 0) (cC h nx .zero) (nx+1)|_,_=>False)
   |.slice (some ⟨k,o,none⟩) n c,some (.int _ m) =>
    (match lo,hi with
    |some (.int _ l),some (.int _ u)=>dI (A.andB (A.andB (A.le 0 l) (A.le l u)) (A.andB (A.le u m) (A.andB (A.le 1 m) (A.le m (A.num c))))) (K (.slice (some ⟨nx,0,none⟩) (A.subN (A.fD u) (A.fD l)) (A.subN (A.fD m) (A.fD l))) (V9 h nx k (A.ix o l ei.size) (A.subN (A.fD m) (A.fD l)*ei.size)) (nx+1))
    |none,some (.int _ u)=>dI (A.andB (A.le 0 u) (A.andB (A.le u m) (A.andB (A.le 1 m) (A.le m (A.num c))))) (K (.slice (some ⟨nx,0,none⟩) (A.fD u) (A.fD m)) (V9 h nx k o (A.fD m*ei.size)) (nx+1))
    |_,_=>False)
   |_,_=>False)
 |_=>False
section
variable {P:Program}{T:cF}{ι:Nat→Loc}{B nx:Nat}{h:Heap}
def N7:Option Value→Option Nat
 |none=>some 0
 |some (.int _ i)=>if 0≤i then some i.toNat else none
 |_=>none
def QN (n c:Nat):Option Value→Option Nat
 |none=>some n
 |some (.int _ i)=>if 0≤i∧i≤c then some i.toNat else none
 |_=>none
theorem jI {t e:TypeId}{s:Nat}(ht:P.underlying t=some (.slice e))(w:World)(hs:(sizeOf e).run P w=.ok s w)(a:Option Addr){n c:Nat}{lo hi:Option Value}{l hN:Nat}
  (hl:N7 lo=some l) (hh:QN n c hi=some hN) (hle:l≤hN) :
  (Instr.sliceAt t (.slice a n c) lo hi none).run P w=.ok (.slice (if c=l then a else a.map (·.add (l*s))) (hN - l) (c - l)) w:=by
 have e1:(match hi with|some v=>Instr.sliceBound v c .sliceAcap|none=>pure n:Sem Nat).run P w=.ok hN w:=by
  cases hi with
  |none=>simp [QN] at hh;subst hh;simp
  |some v =>
   cases v <;> simp only [QN] at hh <;> try (cases hh;done)
   rename_i k i;split at hh
   ·rename_i hb;injection hh with hh;subst hh;simp [run_sliceBound_if,hb]
   ·cases hh
 have e2:(match lo with|some v=>Instr.sliceBound v hN .sliceB|none=>pure 0:Sem Nat).run P w=.ok l w:=by
  cases lo with
  |none=>simp [N7] at hl;subst hl;simp
  |some v =>
   cases v <;> simp only [N7] at hl <;> try (cases hl;done)
   rename_i k i;split at hl
   ·rename_i hb;injection hl with hl;subst hl;have:0≤i∧i≤hN:=⟨hb,by omega⟩;simp [run_sliceBound_if,this]
   ·cases hl
 have e3:(Instr.sliceBounds true n c lo hi none).run P w=.ok (l,hN,c) w:=by
  unfold Instr.sliceBounds;cases hi with
  |none =>
   simp at e1;subst e1;cases lo with
   |none=>simp at e2;subst e2;simp
   |some v=>simp at e2 ⊢;rw [e2];simp
  |some v =>
   simp at e1;cases lo with
   |none=>simp at e2;subst e2;simp [e1]
   |some v=>simp at e2 ⊢;rw [e1];simp [e2]
 simp only [Instr.sliceAt,Sem.run_bind,run_underlying ht,Result.andThen_ok,Instr.slice,e3,hs,Sem.run_pure]
theorem aF9 {n c:Nat}{hi:Option Value}{G:Nat→Prop}(hl:vhi aG n c hi G):∃ hN,G hN∧(∀ c',c≤c'→QN n c' (hi.map (tr ι))=some hN)∧(hN=n∨hN≤c):=by
 unfold vhi at hl;split at hl
 ·exact⟨n,hl,fun _ _=>rfl,.inl rfl⟩
 ·rename_i k i;obtain⟨hb,hG⟩:=aD.1 hl;simp only [aG,Bool.and_eq_true,decide_eq_true_eq] at hb hG;refine⟨i.toNat,hG,fun c' hc=>?_,.inr (by omega)⟩;simp only [Option.map_some,fT,QN];rw [if_pos ⟨hb.1,by omega⟩]
 ·exact hl.elim
theorem G3 {lo:Option Value}(h:isZero lo=true):N7 (lo.map (tr ι))=some 0:=by
 unfold isZero at h;split at h
 ·rfl
 ·rfl
 ·cases h
theorem V6 {hi:Option Value}{c:Nat}(h:isZero hi=true):QN 0 c (hi.map (tr ι))=some 0:=by
 unfold isZero at h;split at h
 ·rfl
 ·simp [QN,fT]
 ·cases h
def Names (P:Program)(ι:Nat→Loc)(B nx:Nat)(w0:World)(h:Heap)(m:Sem Value)(K:KE):Prop :=
 ∃ v h' nx' ι',K v h' nx'∧eG ι' nx' v∧(∀ k,k<nx→ι' k=ι k)∧nx≤nx'∧∀ w,aO ι B h nx w→aO ι' B h' nx' w∧m.run P w=.ok (tr ι' v) w
theorem TI {w:World}(H:aO ι B h nx w){k b off ex q r x:Nat}(hι:ι k=.lay b off ex)(hx:(r=0∧x≤off+q)∨x=off+q):aO (ins ι nx (.lay b x 0)) B (V9 h nx k q r) (nx+1) w:=by
 unfold V9;have hmem:∀ {cs:List Value} {v:Value},v∈(cs.drop q).take r→v∈cs:=fun hv=>List.mem_of_mem_drop (List.mem_of_mem_take hv);have hget:∀ {cs:List Value} {i:Nat} {v:Value},((cs.drop q).take r)[i]? = some v→x=off+q∧cs[q+i]? = some v:=fun {cs i v} hv=>by
  rw [List.getElem?_take] at hv;split at hv
  ·rename_i hlt;rw [List.getElem?_drop] at hv;exact⟨by omega,hv⟩
  ·cases hv
 split
 ·rename_i g sz cs hk;split
  ·rename_i hq;have hq:=Nat.le_of_ble_eq_true hq;obtain⟨h1,h2,arr,t,h3,h4,h5⟩:jT ι B w (.cells true g sz cs) (.lay b off ex):=hι▸H.obj k _ hk;refine (H.rem k).add _ _ ⟨h1,fun hg=>sU fun v hv=>a9 (h2 hg) (hmem hv),arr,t,h3,?_,fun i v hv=>?_⟩ ?_ (fun j o' hj _ b' hb he=>?_)
   ·have:((cs.drop q).take r).length=r:=(by simp;omega);rw [this];rcases hx with ⟨h6,h7⟩|h6
    ·omega
    ·omega
   ·obtain⟨h6,h7⟩:=hget hv;have hs:=H.sc k _ hk v (hmem (List.mem_of_getElem? hv));rw [lF (ι:=ι) (fun j hj=>bY _ _ hj) hs,h6,Nat.add_assoc];exact h5 _ _ h7
   ·exact fun v hv=>gQ (by omega) (fun j hj=>bY _ _ hj) (H.sc k _ hk v (hmem hv))
   ·have hjk:k≠j:=fun e=>by
     subst e;rw [dF] at hj;simp at hj
    have hj':look h j=some o':=by
     rw [dF] at hj;split at hj
     ·cases hj
     ·exact hj
    refine H.sep k j _ o' hk hj' hjk rfl b' ?_ he;rw [hι];exact hb
  ·exact H.more _
 ·rename_i g sz cs hk;obtain⟨h1,h2,h5⟩:jT ι B w (.cells false g sz cs) (.lay b off ex):=hι▸H.obj k _ hk;refine H.add _ _ ⟨h1,fun hg=>sU fun v hv=>a9 (h2 hg) (hmem hv),fun i v hv=>?_⟩ ?_ (fun j o' hj ha b' hb he=>?_)
  ·obtain⟨h6,h7⟩:=hget hv;have hs:=H.sc k _ hk v (hmem (List.mem_of_getElem? hv));rw [lF (ι:=ι) (fun j hj=>bY _ _ hj) hs,h6,Nat.add_assoc];exact h5 _ _ h7
  ·exact fun v hv=>gQ (by omega) (fun j hj=>bY _ _ hj) (H.sc k _ hk v (hmem hv))
  ·have hb2:(ι k).BM=some b':=(by rw [hι];exact hb);rcases ha with ha|ha
   ·cases ha
   ·by_cases hjk:j=k
    ·subst hjk;rw [hk] at hj;injection hj with hj;subst hj;cases ha
    ·exact H.sep j k o' _ hj hk hjk ha b' he hb2
 ·exact H.more _
theorem G7 (hT:cA P T){t:TypeId}{x:Value}{lo hi mx:Option Value}{K:KE}(hl:rF aG T h nx t x lo hi mx K)(hx:eG ι nx x){w0:World}(H0:aO ι B h nx w0) :
  Names P ι B nx w0 h (Instr.sliceAt t (tr ι x) (lo.map (tr ι)) (hi.map (tr ι)) (mx.map (tr ι))) K:=by
 unfold rF at hl;split at hl
 case h_2=>exact hl.elim
 rename_i e s1 b1 z1 ht;split at hl
 ·exact hl.elim
 rename_i ei he;have hti:=hT t _ ht;have hei:=hT e _ he;have hts:=hti.sl rfl;split at hl
 ·split at hl
  case h_2=>exact hl.elim
  rename_i hz1 hz2;refine⟨_,_,_,ι,hl,by simp [eG,j0,fV,mW],fun _ _=>rfl,Nat.le_refl _,fun w H=>⟨H,?_⟩⟩;rw [cX,Option.map_none,jI hts w (hei.sizeOf w) none (G3 hz1) (V6 hz2) (Nat.le_refl _)];simp
 ·rename_i k o n c;have hx':k<nx∧((ι k).gC=false→n=0∧c=0):=hx;obtain⟨hN,hG,hhi,hle⟩:=aF9 (ι:=ι) hl;split at hG
  ·refine⟨_,_,_,ι,hG,⟨hx'.1,fun e=>?_⟩,fun _ _=>rfl,Nat.le_refl _,fun w H=>⟨H,?_⟩⟩
   ·have:=hx'.2 e;omega
   ·cases hι:ι k with
    |nil p =>
     obtain⟨rfl,rfl⟩:=hx'.2 (by rw [hι];rfl);have h0:hN=0:=(by omega);subst h0;simp only [tr,dS,bQ,dU,hι,Option.map_none];rw [jI hts w (hei.sizeOf w) p (l:=0) rfl (hhi 0 (Nat.le_refl _)) (Nat.le_refl _)];simp
    |lay b off ex =>
     simp only [tr,dS,bQ,dU,hι,Option.map_none];rw [jI hts w (hei.sizeOf w) _ (l:=0) rfl (hhi (c+ex) (by omega)) (Nat.zero_le _)];simp [Addr.add_zero']
  ·rename_i kk l;obtain⟨hb,hG⟩:=aD.1 hG;simp only [aG,Bool.and_eq_true,decide_eq_true_eq] at hb;obtain⟨hb,hbc⟩:=hb;have hlo:N7 ((some (Value.int kk l)).map (tr ι))=some l.toNat:=(by simp [N7,fT,hb.1]);split at hG
   ·rename_i wr g sz cs hk;rcases mQ hG with ⟨hb2,hG⟩|⟨hb2,hG⟩
    ·simp only [aG,decide_eq_true_eq] at hb2 hG;refine⟨_,_,_,ι,hG,⟨hx'.1,fun e=>?_⟩,fun _ _=>rfl,Nat.le_refl _,fun w H=>⟨H,?_⟩⟩
     ·have:=hx'.2 e;omega
     ·cases hι:ι k with
      |nil p=>have:=hx'.2 (by rw [hι];rfl);omega
      |lay b off ex =>
       simp only [tr,dS,bQ,dU,hι,Option.map_none];rw [jI hts w (hei.sizeOf w) _ hlo (hhi (c+ex) (by omega)) (by omega),if_neg (by omega)];simp only [Option.map_some,Addr.add_lit,Nat.add_assoc];congr 2;omega
    ·simp only [aG,decide_eq_false_iff_not] at hb2 hG;cases hι:ι k with
     |nil p =>
      obtain⟨rfl,rfl⟩:=hx'.2 (by rw [hι];rfl);have h0:hN=0:=(by omega);subst h0;have hl0:l=0:=(by omega);subst hl0;refine⟨_,_,_,ins ι nx (.nil p),hG,⟨by simp,fun _=>⟨rfl,rfl⟩⟩,fun k hk=>bY _ _ hk,by omega,fun w H=>⟨H.more _,?_⟩⟩;simp only [tr,dS,bQ,dU,hι,Option.map_none,bC];rw [jI hts w (hei.sizeOf w) p (l:=0) (by simp [N7,fT]) (hhi 0 (Nat.le_refl _)) (Nat.le_refl _)];simp
     |lay b off ex =>
      refine⟨_,_,_,ins ι nx (.lay b (off+o+(if c+ex=l.toNat then 0 else l.toNat*ei.size)) ex),hG,⟨by simp,fun e=>by rw [bC] at e;cases e⟩,fun k hk=>bY _ _ hk,by omega,fun w H=>⟨H.more _,?_⟩⟩;simp only [tr,dS,bQ,dU,hι,Option.map_none,bC];rw [jI hts w (hei.sizeOf w) _ hlo (hhi (c+ex) (by omega)) (by omega)];have e1:hN - l.toNat=0:=(by omega);have e2:c+ex - l.toNat=ex:=(by omega);rw [e1,e2];by_cases hce:c+ex=l.toNat
      ·rw [if_pos hce,if_pos hce];simp only [Nat.add_zero,Nat.zero_add]
      ·rw [if_neg hce,if_neg hce];simp only [Option.map_some,Addr.add_lit,Nat.add_zero,Nat.zero_add]
   ·exact hG.elim
  ·exact hG.elim
 ·rename_i k o n c kk;split at hl
  case h_2=>exact hl.elim
  rename_i kk' hz;have hx':k<nx∧((ι k).gC=false→n=0∧c=0):=hx;have hsl:∀ (w:World) (a:Option Addr) (m c':Nat),(Instr.sliceAt t (.slice a m c') (lo.map (tr ι)) (some (.int kk' 0)) (some (.int kk 0))).run P w=.ok (.slice a 0 0) w:=by
   intro w a m c';have e1:=G3 (ι:=ι) hz;generalize lo.map (tr ι)=lo' at e1;cases lo' with
   |none =>
    simp [Instr.sliceAt,run_underlying hts,Instr.slice,Instr.sliceBounds,Instr.sliceBound,asIntOf,hei.sizeOf]
   |some v =>
    cases v <;> simp only [N7] at e1 <;> try (cases e1;done)
    rename_i k3 i;split at e1
    case isFalse=>cases e1
    have:i=0:=(by injection e1;omega);subst this;simp [Instr.sliceAt,run_underlying hts,Instr.slice,Instr.sliceBounds,Instr.sliceBound,asIntOf,hei.sizeOf]
  obtain⟨p,hp⟩:∃ p,∀ m c',∃ m' c'',tr ι (.slice (some ⟨k,o,none⟩) m c')=.slice p m' c'':=by
   cases hι:ι k with
   |nil p=>exact⟨p,fun m c'=>⟨m,c',by simp [tr,dS,bQ,dU,hι]⟩⟩
   |lay b off ex=>exact⟨some ⟨b,off+o,none⟩,fun m c'=>⟨m,c'+ex,by simp [tr,dS,bQ,dU,hι]⟩⟩
  refine⟨_,_,_,ins ι nx (.nil p),hl,⟨by simp,fun _=>by simp⟩,fun k hk=>bY _ _ hk,by omega,fun w H=>⟨?_,?_⟩⟩
  ·exact H.add .zero (.nil p) trivial trivial (fun k' o' _ _ b hb=>by cases hb)
  ·obtain⟨m',c'',e1⟩:=hp n c;rw [e1];have e2:tr (ins ι nx (.nil p)) (.slice (some ⟨nx,0,none⟩) 0 0)=.slice p 0 0:=(by simp [tr,dS,bQ,dU,bC]);rw [e2];exact hsl w _ _ _
 ·rename_i k o n c kk m hm0;split at hl
  case h_3=>exact hl.elim
  case h_2 =>
   rename_i k2 u;obtain⟨hb,hG⟩:=aD.1 hl;simp only [aG,Bool.and_eq_true,decide_eq_true_eq] at hb hG;obtain⟨hb2,hb3,hb4,hb5⟩:=hb;have hx':k<nx∧((ι k).gC=false→n=0∧c=0):=hx;cases hι:ι k with
   |nil p =>
    have:=(hx'.2 (by rw [hι];rfl)).2;omega
   |lay b off ex =>
    refine⟨_,_,_,ins ι nx (.lay b (off+o) 0),hG,⟨by simp,fun e=>by rw [bC] at e;cases e⟩,fun k hk=>bY _ _ hk,by omega,fun w H=>⟨TI H hι (.inr rfl),?_⟩⟩;have e1:tr ι (.slice (some ⟨k,o,none⟩) n c)=.slice (some ⟨b,off+o,none⟩) n (c+ex):=(by simp [tr,dS,bQ,dU,hι]);have e2:∀ n c,tr (ins ι nx (.lay b (off+o) 0)) (.slice (some ⟨nx,0,none⟩) n c)=.slice (some ⟨b,off+o,none⟩) n c:=fun n c=>(by simp [tr,dS,bQ,dU,bC]);rw [e1,e2];simp only [Option.map_some,Option.map_none,fT];have b1:∀ (hi2:Nat) (wh:_),m≤(hi2:Int)→(Instr.sliceBound (.int kk m) hi2 wh).run P w=.ok m.toNat w:=fun hi2 wh hh=>by
     simp [run_sliceBound_if,show 0≤m∧m≤(hi2:Int) from ⟨by omega,hh⟩]
    have b2:∀ (hi2:Nat) (wh:_),u≤(hi2:Int)→(Instr.sliceBound (.int k2 u) hi2 wh).run P w=.ok u.toNat w:=fun hi2 wh hh=>by
     simp [run_sliceBound_if,show 0≤u∧u≤(hi2:Int) from ⟨by omega,hh⟩]
    simp only [Instr.sliceAt,Sem.run_bind,run_underlying hts,Result.andThen_ok,Instr.slice,Instr.sliceBounds,b1 (c+ex) _ (by omega),b2 m.toNat _ (by omega),hei.sizeOf,Sem.run_pure];have hm1:m.toNat≠0:=(by omega);simp [hm1,Addr.add_lit,Nat.add_assoc]
  rename_i k1 l k2 u;obtain⟨hb,hG⟩:=aD.1 hl;simp only [aG,Bool.and_eq_true,decide_eq_true_eq] at hb hG;obtain⟨⟨hb1,hb2⟩,hb3,hb4,hb5⟩:=hb;have hx':k<nx∧((ι k).gC=false→n=0∧c=0):=hx;cases hι:ι k with
  |nil p =>
   have:=(hx'.2 (by rw [hι];rfl)).2;omega
  |lay b off ex =>
   refine⟨_,_,_,ins ι nx (.lay b (off+o+(if m.toNat=l.toNat then 0 else l.toNat*ei.size)) 0),hG,⟨by simp,fun e=>by rw [bC] at e;cases e⟩,fun k hk=>bY _ _ hk,by omega,fun w H=>⟨TI H hι (by rcases Nat.eq_zero_or_pos (m.toNat - l.toNat) with h0|h0 <;> first|(rw [if_pos (by omega)];exact .inl ⟨by rw [h0,Nat.zero_mul],by omega⟩)|(rw [if_neg (by omega)];exact .inr (by omega))),?_⟩⟩;have e1:tr ι (.slice (some ⟨k,o,none⟩) n c)=.slice (some ⟨b,off+o,none⟩) n (c+ex):=(by simp [tr,dS,bQ,dU,hι]);have e2:∀ n c,tr (ins ι nx (.lay b (off+o+(if m.toNat=l.toNat then 0 else l.toNat*ei.size)) 0)) (.slice (some ⟨nx,0,none⟩) n c)=.slice (some ⟨b,off+o+(if m.toNat=l.toNat then 0 else l.toNat*ei.size),none⟩) n c:=fun n c=>(by simp [tr,dS,bQ,dU,bC]);rw [e1,e2];simp only [Option.map_some,fT];have b1:∀ (hi2:Nat) (wh:_),m≤(hi2:Int)→(Instr.sliceBound (.int kk m) hi2 wh).run P w=.ok m.toNat w:=fun hi2 wh hh=>by
    simp [run_sliceBound_if,show 0≤m∧m≤(hi2:Int) from ⟨by omega,hh⟩]
   have b2:∀ (hi2:Nat) (wh:_),u≤(hi2:Int)→(Instr.sliceBound (.int k2 u) hi2 wh).run P w=.ok u.toNat w:=fun hi2 wh hh=>by
    simp [run_sliceBound_if,show 0≤u∧u≤(hi2:Int) from ⟨by omega,hh⟩]
   have b3:∀ (hi2:Nat) (wh:_),l≤(hi2:Int)→(Instr.sliceBound (.int k1 l) hi2 wh).run P w=.ok l.toNat w:=fun hi2 wh hh=>by
    simp [run_sliceBound_if,show 0≤l∧l≤(hi2:Int) from ⟨by omega,hh⟩]
   simp only [Instr.sliceAt,Sem.run_bind,run_underlying hts,Result.andThen_ok,Instr.slice,Instr.sliceBounds,b1 (c+ex) _ (by omega),b2 m.toNat _ (by omega),b3 u.toNat _ (by omega),hei.sizeOf,Sem.run_pure];by_cases hml:m.toNat=l.toNat
   ·simp [hml]
   ·simp [hml,Addr.add_lit,Nat.add_assoc]
 ·exact hl.elim
end
def GD (h:Heap)(sz:Nat)(x:Value)(G:Nat→List Value→Prop):Prop :=
 match x with
 |.slice none 0 0=>G 0 []
 |.slice (some ⟨k,o,none⟩) m _ =>
  (match look h k with
  |some (.cells _ _ _ cs)=>dI (Nat.ble (o+m*sz) cs.length) (G m ((cs.drop o).take (m*sz)))
  |some .zero=>(match m with|0=>G 0 []|_=>False)
  |none=>(match m with|0=>G 0 []|_=>False)
  |_=>False)
 |_=>False
def jB (A:Ar)(T:cF)(h:Heap)(nx:Nat)(t:TypeId)(l c:Value)(K:KE):Prop :=
 match look T t,l,c with
 |some { kind:=.sl e,.. },.int .i64 i,.int .i64 j =>
  (match look T e with
  |some ei=>dI (A.andB (A.andB (A.le 0 i) (A.le i j)) (A.andB (A.le j 1000000000) (Nat.ble ei.bytes 1000)))
   (K (.slice (some ⟨nx,0,none⟩) (A.fD i) (A.fD j)) (cC h nx (.cells true false ei.size (rep (A.fD j) ei.zv.cells.toList))) (nx+1))
  |none=>False)
 |_,_,_=>False
def kM (A:Ar)(T:cF)(h:Heap)(nx:Nat)(st xt:TypeId)(s x:Value)(K:KE):Prop :=
 match look T st,look T xt with
 |some { kind:=.sl e,.. },some { kind:=.int _,.. } =>
  (match look T e with
  |some ei=>(match s,x,Nat.ble ei.bytes 1000 with
   |.slice none 0 0,.int .i64 i,true=>dI (A.andB (A.lt 0 i) (A.le i 1000000000)) (K (.slice (some ⟨nx,0,none⟩) (A.fD i) (A.fD i)) (cC h nx (.cells true false ei.size (rep (A.fD i) ei.zv.cells.toList))) (nx+1))
   |_,_,_=>False)
  |none=>False)
 |some { kind:=.sl e,.. },some { kind:=.sl _,.. } =>
  (match look T e with
  |none=>False
  |some ei =>
   match Nat.ble ei.bytes 1000 with
   |false=>False
   |true =>
    GD h ei.size x fun m src =>
     (match s with
     |.slice none 0 0=>br (Nat.beq m 0) (fun _=>K (.slice none 0 0) h nx)
      (fun _=>dI (Nat.ble m 1000000000) (K (.slice (some ⟨nx,0,none⟩) m m) (cC h nx (.cells true false ei.size src)) (nx+1)))
     |.slice (some ⟨k,o,none⟩) n c =>
      (match look h k with
      |some .zero=>(match n,c with
       |0,0=>br (Nat.beq m 0) (fun _=>K (.slice (some ⟨k,o,none⟩) 0 0) h nx)
        (fun _=>dI (Nat.ble m 1000000000) (K (.slice (some ⟨nx,0,none⟩) m m) (cC h nx (.cells true false ei.size src)) (nx+1)))
       |_,_=>False)
      |some (.cells true _ sz cs) =>
       br (Nat.ble (n+m) c)
        (fun _=>dI (Nat.ble (o+(n+m)*ei.size) cs.length) (K (.slice (some ⟨k,o,none⟩) (n+m) c) (vS h k (.cells true false sz (eC cs (o+n*ei.size) src))) nx))
        (fun _=>dI (A.andB (A.andB (Nat.ble (n+m) 1000000000) (Nat.ble (o+n*ei.size) cs.length)) (A.andB (Nat.beq (o+c*ei.size) cs.length) (Nat.beq sz ei.size)))
         (K (.slice (some ⟨nx,0,none⟩) (n+m) (n+m)) (cC (rem h k) nx (.cells true false ei.size ((cs.drop o).take (n*ei.size)++src))) (nx+1)))
      |_=>False)
     |_=>False))
 |_,_=>False
section
variable {P:Program}{T:cF}{ι:Nat→Loc}{B nx:Nat}{h:Heap}
theorem aO.drawn {w:World}(H:aO ι B h nx w)(c:Nat):aO ι B h nx { w with drawn:=c } :=
 H.zF (fun _ _ _ _ _=>rfl) (Nat.le_refl _)
theorem aO.win {w:World}(H:aO ι B h nx w){k:Nat}{wr g:Bool}{sz:Nat}{cs:List Value}(hk:look h k=some (.cells wr g sz cs)){b off e:Nat}(hι:ι k=.lay b off e){o n:Nat}(hl:o+n≤cs.length) :
  (loadCells ⟨b,off+o,none⟩ n).run P w=.ok (((cs.drop o).take n).map (bQ ι)).toArray w:=by
 have hlen:(((cs.drop o).take n).map (bQ ι)).length=n:=(by simp;omega);have:=run_loadCells_list (P:=P) w ⟨b,off+o,none⟩ (((cs.drop o).take n).map (bQ ι)) (fun j v hj=>by
  obtain⟨u,hu,rfl⟩:=nA hj;rw [List.getElem?_take] at hu;split at hu
  case isFalse=>cases hu
  rw [List.getElem?_drop] at hu;obtain⟨b',off',e',hι',hc⟩:=H.cell hk hu;rw [hι] at hι';injection hι' with e1 e2 e3;subst e1;subst e2;rw [Addr.add_lit,Nat.add_assoc];exact hc)
 rwa [hlen] at this
theorem aCS {sz:Nat}{x:Value}{G:Nat→List Value→Prop}(hl:GD h sz x G)(hx:eG ι nx x){w:World}(H:aO ι B h nx w) :
  ∃ m src,G m src∧src.length=m*sz∧(∀ v∈src,fV ι nx v)∧Src P w sz (tr ι x) m (src.map (bQ ι)):=by
 unfold GD at hl;split at hl
 ·exact⟨0,[],hl,by simp,by simp,⟨by simp [cX,Builtin.lenOf],fun c=>by simp [cX,Builtin.firstCells]⟩⟩
 ·rename_i k o m c;have hx':k<nx∧((ι k).gC=false→m=0∧c=0):=hx;split at hl
  ·rename_i wr g sz' cs hk;obtain⟨hb,hG⟩:=aD.1 hl;have hb:=Nat.le_of_ble_eq_true hb;refine⟨m,_,hG,by simp;omega,fun v hv=>H.sc k _ hk v (List.mem_of_mem_drop (List.mem_of_mem_take hv)),?_⟩;cases hι:ι k with
   |nil p =>
    obtain⟨rfl,rfl⟩:=hx'.2 (by rw [hι];rfl);refine⟨by simp [tr,dS,bQ,dU,hι,Builtin.lenOf],fun c=>?_⟩;cases p with
    |none=>simp [tr,dS,bQ,dU,hι,Builtin.firstCells]
    |some p=>simp [tr,dS,bQ,dU,hι,Builtin.firstCells,loadCells,loadCellsFrom]
   |lay b off e =>
    refine⟨by simp [tr,dS,bQ,dU,hι,Builtin.lenOf],fun c=>?_⟩;simp only [tr,dS,bQ,dU,hι,Builtin.firstCells];exact (H.drawn c).win hk hι hb
  ·rename_i hk;split at hl
   case h_2=>exact hl.elim
   refine⟨0,[],hl,by simp,by simp,?_⟩;have hob:=H.obj k _ hk;cases hι:ι k with
   |nil p =>
    refine⟨by simp [tr,dS,bQ,dU,hι,Builtin.lenOf],fun c=>?_⟩;cases p with
    |none=>simp [tr,dS,bQ,dU,hι,Builtin.firstCells]
    |some p=>simp [tr,dS,bQ,dU,hι,Builtin.firstCells,loadCells,loadCellsFrom]
   |lay b off e=>rw [hι] at hob;exact hob.elim
  ·rename_i hk;split at hl
   case h_2=>exact hl.elim
   refine⟨0,[],hl,by simp,by simp,?_⟩;cases hι:ι k with
   |nil p =>
    refine⟨by simp [tr,dS,bQ,dU,hι,Builtin.lenOf],fun c=>?_⟩;cases p with
    |none=>simp [tr,dS,bQ,dU,hι,Builtin.firstCells]
    |some p=>simp [tr,dS,bQ,dU,hι,Builtin.firstCells,loadCells,loadCellsFrom]
   |lay b off e =>
    refine⟨by simp [tr,dS,bQ,dU,hι,Builtin.lenOf],fun c=>?_⟩;simp [tr,dS,bQ,dU,hι,Builtin.firstCells,loadCells,loadCellsFrom]
  ·exact hl.elim
 ·exact hl.elim
theorem aO.grown {w:World}(H:aO ι B h nx w)(e:TypeId)(cs:List Value)(sz cap need:Nat)(zs:List Value)(hz:zs.length=(cap - need)*sz)(hs:∀ v∈cs,fV ι nx v) :
  aO (ins ι nx (.lay w.heap.size 0 (cap - need))) B (cC h nx (.cells true false sz cs)) (nx+1) (w.alloc (.cells (cs.map (bQ ι)++zs).toArray e)):=by
 refine (H.ext (c7 w _)).add _ _ ?_ ?_ (fun k o' hk _ b hb e'=>?_)
 ·refine⟨H.size,by simp,_,e,(MapKept.heap_alloc w _).1,by simp [hz],fun i v hv=>?_⟩;have hlt:=(List.getElem?_eq_some_iff.1 hv).1;rw [Nat.zero_add,List.getElem?_toArray,List.getElem?_append_left (by simpa using hlt),List.getElem?_map,hv];simp only [Option.map_some];rw [lF (ι:=ι) (fun k hk=>bY _ _ hk) (hs v (List.mem_of_getElem? hv))]
 ·intro v hv;exact gQ (by omega) (fun k hk=>bY _ _ hk) (hs v hv)
 ·have h1:=(H.obj k o' hk).lt e';have:w.heap.size=b:=(by simpa [Loc.BM] using hb);omega
theorem M0 {cs:List Value}{o:Nat}:eC cs o []=cs:=by simp [eC]
theorem aO.aIa {w:World}(H:aO ι B h nx w){k:Nat}{g:Bool}{sz:Nat}{cs:List Value}(hk:look h k=some (.cells true g sz cs)){b off e:Nat}(hι:ι k=.lay b off e){o:Nat}{vs:List Value}(ho:o+vs.length≤cs.length)
  (hs:∀ v∈vs,fV ι nx v) :
  ∃ w',(storeCells ⟨b,off+o,none⟩ (vs.map (bQ ι))).run P w=.ok () w'∧fQ B w w'∧aO ι B (vS h k (.cells true false sz (eC cs o vs))) nx w':=by
 by_cases hne:vs=[]
 ·subst hne;refine⟨w,by simp [storeCells],fQ.refl _ _,?_⟩;rw [M0];have hob:=H.obj k _ hk;rw [hι] at hob;refine H.set hk rfl ?_ (fun v hv=>H.NB hk hv) rfl (fun _ _=>rfl) (Nat.le_refl _);rw [hι];exact⟨hob.1,by simp,hob.2.2⟩
 ·obtain⟨b',off',e',w',hι',h1,h2,h3⟩:=H.put (P:=P) hk ho hs hne;rw [hι] at hι';injection hι' with e1 e2 e3;subst e1;subst e2;exact⟨w',h1,h2,h3⟩
end
section
variable {P:Program}{T:cF}{ι:Nat→Loc}{B nx:Nat}{h:Heap}
theorem EK {sz m:Nat}{src:List Value}(h1:src.length=m*sz)(h0:m=0):src=[]:=by
 subst h0;cases src with
 |nil=>rfl
 |cons a r=>simp at h1
theorem nN {st xt e:TypeId}{ei si:OW}{d:TypeDesc}(hds:P.underlying st=some (.slice e))(hdx:P.underlying xt=some d)(hd:∀ k,d≠.int k)(hT:cA P T)(he:look T e=some ei)(hby:ei.bytes≤1000)
  {ty:TypeId} {x:Value} {m:Nat} {src olds:List Value} (hlen:src.length=m*ei.size) (hsc:∀ v∈src,fV ι nx v)
  {w:World} (H:aO ι B h nx w) (hsrc:Src P w ei.size x m (src.map (bQ ι))) {base:Option Addr} {n c:Nat} (hlo:olds.length=n*ei.size) (hos:∀ v∈olds,fV ι nx v)
  (hold:(Builtin.firstCells ei.size n (.slice base n c)).run P w.drew=.ok (olds.map (bQ ι)).toArray w.drew) (hroom:c<n+m) (hm:n+m≤1000000000) {K:KE}
  (hK:K (.slice (some ⟨nx,0,none⟩) (n+m) (n+m)) (cC h nx (.cells true false ei.size (olds++src))) (nx+1)) :
  JP P ι B nx w (Builtin.append_ #[st,xt] ty #[.slice base n c,x]) K:=by
 have hei:=hT e _ he;obtain⟨inf,hi,h1,h2,h3⟩:=hei.info;obtain⟨cap,hc,hrun⟩:=DD (ty:=ty) hds hdx hd hi h3 w base n c m x (src.map (bQ ι)) (olds.map (bQ ι)) (by rw [h1];exact hsrc) (by rw [h1];exact hold) hroom (by omega) hm;have H':aO ι B h nx w.drew:=H.drawn _;have hg:=H'.grown e (olds++src) ei.size cap (n+m) (Builtin.zeroCells ei.zv.cells (cap - (n+m))).toList (by
  rw [Array.length_toList,size_zeroCells,hei.zs]) (by
  intro v hv;rcases List.mem_append.1 hv with hv|hv
  ·exact hos v hv
  ·exact hsc v hv)
 refine⟨_,_,_,_,_,hK,?_,hg,?_,fun k hk=>bY _ _ hk,by omega,?_⟩
 ·simp [eG,j0,fV,mW,bC,Loc.gC]
 ·exact fQ.trans (⟨rfl,rfl,rfl,Nat.le_refl _,fun _ _=>rfl,Nat.le_succ _⟩:fQ B w w.drew) ((c7 w.drew _).mono H.size)
 ·rw [hrun];simp only [tr,dS,bQ,dU,bC,List.map_append,Nat.add_zero];congr 2
  ·omega
theorem F7 (hT:cA P T){t:TypeId}{l c:Value}{K:KE}(hl:jB aG T h nx t l c K){w:World}(H:aO ι B h nx w) :
  JP P ι B nx w (Instr.makeSlice t (tr ι l) (tr ι c)) K:=by
 unfold jB at hl;split at hl
 case h_2=>exact hl.elim
 rename_i e s1 b1 z1 i j ht;split at hl
 case h_2=>exact hl.elim
 rename_i ei he;obtain⟨hb,hK⟩:=aD.1 hl;simp only [aG,Bool.and_eq_true,decide_eq_true_eq] at hb hK;obtain⟨⟨hb1,hb2⟩,hb3,hb4⟩:=hb;have hb4:=Nat.le_of_ble_eq_true hb4;have hts:=(hT t _ ht).sl rfl;have hei:=hT e _ he;obtain⟨inf,hi,hi1,hi2,hi3⟩:=hei.info;have hz:=o7 hT he;have hrep:∀ v∈rep j.toNat ei.zv.cells.toList,gS v=true:=by
  intro v hv;simp only [rep,List.mem_flatten,List.mem_replicate] at hv;obtain⟨l,⟨_,rfl⟩,hv⟩:=hv;exact hz v hv
 have hcells:madeCells ei.zv.cells (j.toNat*inf.size)=(rep j.toNat ei.zv.cells.toList).toArray:=by
  have:=iT ei.zv.cells j.toNat;rw [← this,hi1,← hei.zs];rfl
 have h3:(inf.bytes:Int)*j≤281474976710656:=by
  have h3:inf.bytes*j.toNat≤1000*1000000000:=Nat.mul_le_mul (by omega) (by omega);have h4:((inf.bytes*j.toNat:Nat):Int)=inf.bytes*j:=(by rw [Int.natCast_mul,Int.toNat_of_nonneg (by omega)]);omega
 have hrun:=run_make (P:=P) w t e inf ei.zv hts hi hi3 .i64 .i64 i j hb1 hb2 h3 (by omega);have hf:=H.fresh e (madeCells ei.zv.cells (j.toNat*inf.size)) (rep j.toNat ei.zv.cells.toList) ei.size (by rw [hcells,mB hrep]) (fun v hv=>cD (hrep v hv));refine⟨_,_,_,_,_,hK,?_,hf,?_,fun k hk=>bY _ _ hk,by omega,?_⟩
 ·simp [eG,j0,fV,mW,bC,Loc.gC]
 ·exact (c7 w _).mono H.size
 ·rw [fT,fT,hrun];simp [tr,dS,bQ,dU,bC]
theorem QJ (hT:cA P T){st xt ty:TypeId}{s x:Value}{K:KE}(hl:kM aG T h nx st xt s x K)(hs:eG ι nx s)(hx:eG ι nx x){w:World}(H:aO ι B h nx w) :
  JP P ι B nx w (Builtin.append_ #[st,xt] ty #[tr ι s,tr ι x]) K:=by
 unfold kM at hl;split at hl
 case h_3=>exact hl.elim
 case h_1 =>
  rename_i e s1 b1 z1 ik s2 b2 z2 hst hxt;split at hl
  case h_2=>exact hl.elim
  rename_i ei he;split at hl
  case h_2=>exact hl.elim
  rename_i i hby
  have hby:=Nat.le_of_ble_eq_true hby
  obtain⟨hb,hK⟩:=aD.1 hl;simp only [aG,Bool.and_eq_true,decide_eq_true_eq] at hb hK;have hds:=(hT st _ hst).sl rfl;have hdx:=(hT xt _ hxt).int rfl;have hei:=hT e _ he;obtain⟨inf,hi,hi1,hi2,hi3⟩:=hei.info;have hz:=o7 hT he;have hrep:∀ v∈rep i.toNat ei.zv.cells.toList,gS v=true:=by
   intro v hv;simp only [rep,List.mem_flatten,List.mem_replicate] at hv;obtain⟨l,⟨_,rfl⟩,hv⟩:=hv;exact hz v hv
  have hg:=(H.drawn (w.drawn+1)).grown e (rep i.toNat ei.zv.cells.toList) ei.size (grownCap w i.toNat 0 e) i.toNat (Builtin.zeroCells ei.zv.cells (grownCap w i.toNat 0 e - i.toNat)).toList (by
   rw [Array.length_toList,size_zeroCells,hei.zs]) (fun v hv=>cD (hrep v hv))
  refine⟨_,_,_,_,_,hK,?_,hg,?_,fun k hk=>bY _ _ hk,by omega,?_⟩
  ·simp [eG,j0,fV,mW,bC,Loc.gC]
  ·exact fQ.trans (⟨rfl,rfl,rfl,Nat.le_refl _,fun _ _=>rfl,Nat.le_succ _⟩:fQ B w w.drew) ((c7 w.drew _).mono H.size)
  ·have hn0:i.toNat≠0:=(by omega);have hpos:=hei.pos;have hns:¬ (i.toNat*ei.size=0):=Nat.pos_iff_ne_zero.1 (Nat.mul_pos (by omega) hpos);have hwr:IntKind.i64.wrap i=i:=IntWalk.i64_in i ⟨by omega,by omega⟩;have hfit:Builtin.nextslicecap i.toNat 0*inf.bytes≤281474976710656:=growslice_fits (by omega) (by
    have:=Nat.mul_le_mul (show i.toNat≤1000000000 by omega) (show inf.bytes≤1000 by omega);omega)
   have c1:¬ (i<0):=(by omega);have c2:¬ (281474976710656<i*(inf.bytes:Int)):=by
    have h3:i.toNat*inf.bytes≤1000000000*1000:=Nat.mul_le_mul (by omega) (by omega);have h4:((i.toNat*inf.bytes:Nat):Int)=i*inf.bytes:=(by rw [Int.natCast_mul,Int.toNat_of_nonneg (by omega)]);omega
   have c3:¬ (i.toNat=0):=hn0;have c4:¬ (9223372036854775807<(i.toNat:Int)):=(by omega);have c5:¬ (281474976710656<Builtin.nextslicecap i.toNat 0*inf.bytes):=(by omega);have c6:¬ (i.toNat=0∨inf.size=0):=(by omega);have hz':(Builtin.zeroCells ei.zv.cells i.toNat).toList=rep i.toNat ei.zv.cells.toList:=iT _ _;rw [cX,fT];simp only [tr,dS,bQ,dU,bC,Nat.add_zero];simp [Builtin.append_,run_underlying hds,run_underlying hdx,sizeOf,typeInfo,zeroValue,asInt,asIntOf,hi,hi3,hwr,c1,c2,c3,c4,c5,c6,Question.forced,newRow,grownCap,Builtin.firstCells,mB hrep];have d1:¬ (i≤0):=(by omega);have d2:¬ (9223372036854775807<max i 0):=(by omega);have d3:¬ (i.toNat*inf.size=0):=(by rw [hi1];exact hns);have d4:i.toNat+(grownCap w i.toNat 0 e - i.toNat)=grownCap w i.toNat 0 e:=by
    have:=grownCap_ge w i.toNat 0 e;omega
   simp only [grownCap] at d4;rw [if_neg d1,if_neg d2,if_neg d3,d4,← hz',← Array.toList_append]
 rename_i e s1 b1 z1 e' s2 b2 z2 hst hxt;split at hl
 ·exact hl.elim
 rename_i ei he;split at hl
 ·exact hl.elim
 rename_i hby
 have hby:=Nat.le_of_ble_eq_true hby
 have hds:=(hT st _ hst).sl rfl;have hdx:=(hT xt _ hxt).sl rfl;have hd:∀ k,TypeDesc.slice e'≠.int k:=fun k e=>(by cases e);have hei:=hT e _ he;obtain⟨inf,hi,hi1,hi2,hi3⟩:=hei.info;obtain⟨m,src,hG,hlen,hsc,hsrc⟩:=aCS (P:=P) hl hx H;have hfirst0:∀ (p:Option Addr),(Builtin.firstCells ei.size 0 (.slice p 0 0)).run P w.drew=.ok (([]:List Value).map (bQ ι)).toArray w.drew:=by
  intro p;cases p <;> simp [Builtin.firstCells,loadCells,loadCellsFrom]
 split at hG
 ·rcases mQ hG with ⟨hm,hK⟩|⟨hm,hK⟩
  ·have hm:=beq_true hm;have:=EK hlen hm;subst this;subst hm;refine⟨_,_,_,ι,w,hK,by simp [eG,j0,fV,mW],H,fQ.refl _ _,fun _ _=>rfl,Nat.le_refl _,?_⟩;rw [cX,iQ hds hdx hd hi w none 0 0 0 (tr ι x) [] (by rw [hi1];exact hsrc) (by omega)];rfl
  ·obtain⟨h1,hK⟩:=aD.1 hK;have hm:=beq_false hm;have h1:=Nat.le_of_ble_eq_true h1;rw [cX];exact nN (si:=ei) (olds:=[]) hds hdx hd hT he hby hlen hsc H hsrc (by simp) (by simp) (hfirst0 none) (by omega) (by omega) (by simpa using hK)
 ·rename_i k o n c;have hs':k<nx∧((ι k).gC=false→n=0∧c=0):=hs;split at hG
  ·rename_i hk;split at hG
   case h_2=>exact hG.elim
   have hob:=H.obj k _ hk;cases hι:ι k with
   |lay b off ex=>rw [hι] at hob;exact hob.elim
   |nil p =>
    have htr:tr ι (.slice (some ⟨k,o,none⟩) 0 0)=.slice p 0 0:=(by simp [tr,dS,bQ,dU,hι]);rw [htr];rcases mQ hG with ⟨hm,hK⟩|⟨hm,hK⟩
    ·have hm:=beq_true hm;have:=EK hlen hm;subst this;subst hm;refine⟨_,_,_,ι,w,hK,hs,H,fQ.refl _ _,fun _ _=>rfl,Nat.le_refl _,?_⟩;rw [htr,iQ hds hdx hd hi w p 0 0 0 (tr ι x) [] (by rw [hi1];exact hsrc) (by omega)];cases p <;> simp [storeCells]
    ·obtain⟨h1,hK⟩:=aD.1 hK;have hm:=beq_false hm;have h1:=Nat.le_of_ble_eq_true h1;exact nN (si:=ei) (olds:=[]) hds hdx hd hT he hby hlen hsc H hsrc (by simp) (by simp) (hfirst0 p) (by omega) (by omega) (by simpa using hK)
  ·rename_i g sz cs hk;rcases mQ hG with ⟨hm,hK⟩|⟨hm,hK⟩
   ·obtain⟨hb,hK⟩:=aD.1 hK;have hb:=Nat.le_of_ble_eq_true hb;have hm:=Nat.le_of_ble_eq_true hm;have hmul:(n+m)*ei.size=n*ei.size+m*ei.size:=Nat.add_mul _ _ _;cases hι:ι k with
    |nil p =>
     obtain⟨rfl,rfl⟩:=hs'.2 (by rw [hι];rfl);have hm0:m=0:=(by omega);have:=EK hlen hm0;subst this;subst hm0;have htr:tr ι (.slice (some ⟨k,o,none⟩) 0 0)=.slice p 0 0:=(by simp [tr,dS,bQ,dU,hι]);rw [M0] at hK;refine⟨_,_,_,ι,w,hK,by exact⟨hs'.1,fun _=>⟨rfl,rfl⟩⟩,?_,fQ.refl _ _,fun _ _=>rfl,Nat.le_refl _,?_⟩
     ·refine H.set hk rfl ?_ (fun v hv=>H.NB hk hv) rfl (fun _ _=>rfl) (Nat.le_refl _);have hob:=H.obj k _ hk;rw [hι] at hob ⊢;exact hob
     ·rw [htr,iQ hds hdx hd hi w p 0 0 0 (tr ι x) [] (by rw [hi1];exact hsrc) (by omega)];cases p <;> simp [storeCells,tr,dS,bQ,dU,hι]
    |lay b off ex =>
     obtain⟨w',h1,h2,h3⟩:=H.aIa (P:=P) hk hι (o:=o+n*ei.size) (vs:=src) (by omega) hsc;have htr:∀ n c,tr ι (.slice (some ⟨k,o,none⟩) n c)=.slice (some ⟨b,off+o,none⟩) n (c+ex):=fun n c=>(by simp [tr,dS,bQ,dU,hι]);refine⟨_,_,_,ι,w',hK,⟨hs'.1,fun h=>by rw [hι] at h;cases h⟩,h3,h2,fun _ _=>rfl,Nat.le_refl _,?_⟩;rw [htr,htr,iQ hds hdx hd hi w (some ⟨b,off+o,none⟩) n (c+ex) m (tr ι x) (src.map (bQ ι)) (by rw [hi1];exact hsrc) (by omega)];simp only [hi1,Addr.add_lit,Nat.add_assoc] at h1 ⊢;rw [h1];rfl
   ·obtain⟨hb,hK'⟩:=aD.1 hK;clear hK;simp only [aG,Bool.and_eq_true] at hb;obtain⟨⟨hb1,hb2⟩,hb3,hb4⟩:=hb;have hb1:=Nat.le_of_ble_eq_true hb1;have hb2:=Nat.le_of_ble_eq_true hb2;have hb3:=beq_true hb3;have hb4:=beq_true hb4;subst hb4;have hm:¬ (n+m≤c):=fun hle=>by
     have:=Nat.ble_eq_true_of_le hle;rw [hm] at this;cases this
    have hmul:(n+m)*ei.size=n*ei.size+m*ei.size:=Nat.add_mul _ _ _;have hoc:∀ v∈(cs.drop o).take (n*ei.size),fV ι nx v:=fun v hv=>H.NB hk (List.mem_of_mem_drop (List.mem_of_mem_take hv));have hol:((cs.drop o).take (n*ei.size)).length=n*ei.size:=(by simp;omega);cases hι:ι k with
    |nil p =>
     obtain⟨rfl,rfl⟩:=hs'.2 (by rw [hι];rfl);have htr:tr ι (.slice (some ⟨k,o,none⟩) 0 0)=.slice p 0 0:=(by simp [tr,dS,bQ,dU,hι]);rw [htr];refine nN (si:=ei) (olds:=[]) hds hdx hd hT he hby hlen hsc (H.rem k) hsrc (by simp) (by simp) (hfirst0 p) (by omega) (by omega) ?_;simpa using hK'
    |lay b off ex =>
     have htr:tr ι (.slice (some ⟨k,o,none⟩) n c)=.slice (some ⟨b,off+o,none⟩) n (c+ex):=(by simp [tr,dS,bQ,dU,hι]);rw [htr];by_cases hin:n+m≤c+ex
     ·-- in place,beyond what was known
      have hob:=H.obj k _ hk;rw [hι] at hob;obtain⟨hB,_,arr,t,a1,a2,a3⟩:=hob;have hone:∀ v∈src.map (bQ ι),v.oneCell'=true:=by
       intro v hv;obtain⟨u,hu,rfl⟩:=List.mem_map.1 hv;exact (qR (hsc u hu)).1
      have hroom2:(n+m)*ei.size≤(c+ex)*ei.size:=Nat.mul_le_mul_right _ hin;have hcx:(c+ex)*ei.size=c*ei.size+ex*ei.size:=Nat.add_mul _ _ _;obtain⟨w',arr',e1,e2,e3,e4,e5⟩:=mC (P:=P) (off:=off+(o+n*ei.size)) (src.map (bQ ι)) 0 w arr hone a1 (by simp;omega);have Hr:aO ι B (rem h k) nx w':=by
       refine (H.rem k).zF (fun j o' b' hj hb'=>e2.other b' (fun e=>?_)) (Nat.le_of_eq e2.size.symm);subst e;rw [dF] at hj;split at hj
       ·cases hj
       ·rename_i hjk;exact H.sep k j _ o' hk hj (fun e=>hjk e.symm) rfl b' (by rw [hι];rfl) hb'
      have hnew:=Hr.add (.cells true false ei.size ((cs.drop o).take (n*ei.size)++src)) (.lay b (off+o) (c+ex - (n+m))) (by
       refine⟨hB,by simp,arr',t,e3,?_,fun i v hv=>?_⟩
       ·have:(c+ex - (n+m))*ei.size=(c+ex)*ei.size - (n+m)*ei.size:=Nat.sub_mul _ _ _;rw [e4,List.length_append,hol,hlen];omega
       ·rw [e5];simp only [List.length_map,Nat.add_zero];have hmem:=List.mem_of_getElem? hv;have hscv:fV ι nx v:=by
         rcases List.mem_append.1 hmem with hv|hv
         ·exact hoc v hv
         ·exact hsc v hv
        rw [lF (fun k hk=>bY _ _ hk) hscv];by_cases hi':i<n*ei.size
        ·rw [List.getElem?_append_left (by omega)] at hv;rw [List.getElem?_take_of_lt hi',List.getElem?_drop] at hv;rw [if_neg (by omega),Nat.add_assoc];exact a3 _ v hv
        ·rw [List.getElem?_append_right (by omega),hol] at hv;have:=(List.getElem?_eq_some_iff.1 hv).1;rw [if_pos (by omega),show off+o+i - (off+(o+n*ei.size))=i - n*ei.size by omega,List.getElem?_map,hv];rfl) (by
       intro v hv;refine gQ (by omega) (fun k hk=>bY _ _ hk) ?_;rcases List.mem_append.1 hv with hv|hv
       ·exact hoc v hv
       ·exact hsc v hv) (by
       intro j o' hj _ b' hb';have:b=b':=(by simpa [Loc.BM] using hb');subst this;rw [dF] at hj;split at hj
       ·cases hj
       ·rename_i hjk;exact H.sep k j _ o' hk hj (fun e=>hjk e.symm) rfl b (by rw [hι];rfl))
      refine⟨_,_,_,_,w',hK',?_,hnew,e2.below hB,fun k hk=>bY _ _ hk,by omega,?_⟩
      ·simp [eG,j0,fV,mW,bC,Loc.gC]
      ·rw [iQ hds hdx hd hi w (some ⟨b,off+o,none⟩) n (c+ex) m (tr ι x) (src.map (bQ ι)) (by rw [hi1];exact hsrc) hin];simp only [hi1,Addr.add_lit,Nat.add_assoc] at e1 ⊢;rw [e1];simp only [Result.andThen_ok,tr,dS,bQ,dU,bC,Nat.add_zero];congr 2;omega
     ·refine nN (si:=ei) (olds:=(cs.drop o).take (n*ei.size)) hds hdx hd hT he hby hlen hsc (H.rem k) hsrc hol hoc ?_ (by omega) (by omega) hK';simp only [Builtin.firstCells];exact (H.drawn _).win hk hι (by omega)
  ·exact hG.elim
 ·exact hG.elim
end
end Go.Aw
end
