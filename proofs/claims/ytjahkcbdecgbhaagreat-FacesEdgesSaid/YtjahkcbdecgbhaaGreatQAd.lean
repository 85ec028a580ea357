/-
  Parts of the proof, put together. No condition.
-/
import Derived.Test.YtjahkcbdecgbhaaGreatQAc
set_option linter.unusedSimpArgs false
set_option linter.unusedVariables false
noncomputable section
namespace Go.Aw
open Go.RowKit
def vhi (A:Ar)(n c:Nat)(hi:Option Value)(G:Nat→Prop):Prop :=
 match hi with
 |none=>G n
 |some (.int _ i)=>dI (A.andB (A.le 0 i) (A.le i (A.num c))) (G (A.toN i))
 |_=>False
def isZero:Option Value→Bool
 |none=>true
 |some (.int _ 0)=>true
 |_=>false
def V5 (h:Heap)(nx k q r:Nat):Heap:=match look h k with
 |some (.cells true g sz cs)=>(match Nat.ble (q+r) cs.length with|true=>bV (rem h k) nx (.cells true g sz ((cs.drop q).take r))|false=>h)
 |some (.cells false g sz cs)=>bV h nx (.cells false g sz ((cs.drop q).take r))
 |_=>h
def tG (A:Ar)(T:cM)(h:Heap)(nx:Nat)(t:TypeId)(x:Value)(lo hi mx:Option Value)(K:KE):Prop :=
 match look T t with
 |some { kind:=.sl e,.. } =>
  (match look T e with
  |none=>False
  |some ei =>
   match x,mx with
   |.slice none 0 0,none=>(match isZero lo,isZero hi with|true,true=>K (.slice none 0 0) h nx|_,_=>False)
   |.slice (some ⟨k,o,none⟩) n c,none =>
    vhi A n c hi fun hN =>
     (match lo with
     |none=>K (.slice (some ⟨k,o,none⟩) hN c) h nx
     |some (.int _ l)=>dI (A.andB (A.andB (A.le 0 l) (A.le l (A.num hN))) (A.le (A.num hN) (A.num c)))
      (match look h k with
      |some (.cells _ _ _ _)=>br (A.lt l (A.num c)) (fun _=>K (.slice (some ⟨k,A.ix o l ei.size,none⟩) (A.subN hN (A.toN l)) (A.subN c (A.toN l))) h nx) (fun _=>K (.slice (some ⟨nx,0,none⟩) 0 0) h (nx+1))
      |_=>False)
     |_=>False)
   |.slice (some ⟨k,o,none⟩) n c,some (.int _ 0) =>
    (match isZero lo,hi with|true,some (.int _ 0)=>K (.slice (some ⟨nx,0,none⟩) 0 0) (bV h nx .zero) (nx+1)|_,_=>False)
   |.slice (some ⟨k,o,none⟩) n c,some (.int _ m) =>
    (match lo,hi with
    |some (.int _ l),some (.int _ u)=>dI (A.andB (A.andB (A.le 0 l) (A.le l u)) (A.andB (A.le u m) (A.andB (A.le 1 m) (A.le m (A.num c))))) (K (.slice (some ⟨nx,0,none⟩) (A.subN (A.toN u) (A.toN l)) (A.subN (A.toN m) (A.toN l))) (V5 h nx k (A.ix o l ei.size) (A.subN (A.toN m) (A.toN l)*ei.size)) (nx+1))
    |none,some (.int _ u)=>dI (A.andB (A.le 0 u) (A.andB (A.le u m) (A.andB (A.le 1 m) (A.le m (A.num c))))) (K (.slice (some ⟨nx,0,none⟩) (A.toN u) (A.toN m)) (V5 h nx k o (A.toN m*ei.size)) (nx+1))
    |_,_=>False)
   |_,_=>False)
 |_=>False
section
variable {P:Program}{T:cM}{ι:Nat→Loc}{B nx:Nat}{h:Heap}
def MF:Option Value→Option Nat
 |none=>some 0
 |some (.int _ i)=>if 0≤i then some i.toNat else none
 |_=>none
def QA (n c:Nat):Option Value→Option Nat
 |none=>some n
 |some (.int _ i)=>if 0≤i∧i≤c then some i.toNat else none
 |_=>none
theorem j3 {t e:TypeId}{s:Nat}(ht:P.underlying t=some (.slice e))(w:World)(hs:(sizeOf e).run P w=.ok s w)(a:Option Addr){n c:Nat}{lo hi:Option Value}{l hN:Nat}
  (hl:MF lo=some l) (hh:QA n c hi=some hN) (hle:l≤hN) :
  (Instr.sliceAt t (.slice a n c) lo hi none).run P w=.ok (.slice (if c=l then a else a.map (·.add (l*s))) (hN - l) (c - l)) w:=by
 have e1:(match hi with|some v=>Instr.sliceBound v c .sliceAcap|none=>pure n:Sem Nat).run P w=.ok hN w:=by
  cases hi with
  |none=>simp [QA] at hh;subst hh;simp
  |some v =>
   cases v <;> simp only [QA] at hh <;> try (cases hh;done)
   rename_i k i;split at hh
   ·rename_i hb;injection hh with hh;subst hh;simp [run_sliceBound_if,hb]
   ·cases hh
 have e2:(match lo with|some v=>Instr.sliceBound v hN .sliceB|none=>pure 0:Sem Nat).run P w=.ok l w:=by
  cases lo with
  |none=>simp [MF] at hl;subst hl;simp
  |some v =>
   cases v <;> simp only [MF] at hl <;> try (cases hl;done)
   rename_i k i;split at hl
   ·rename_i hb;injection hl with hl;subst hl;have:0≤i∧i≤hN:=⟨hb,by omega⟩;simp [run_sliceBound_if,this]
   ·cases hl
 have e3:(Instr.sliceBounds true n c lo hi none).run P w=.ok (l,hN,c) w:=by
  unfold Instr.sliceBounds;cases hi with
  |none =>
   simp at e1;subst e1;cases lo with
   |none=>simp at e2;subst e2;simp
   |some v=>simp at e2 ⊢;rw [e2];simp
  |some v =>
   simp at e1;cases lo with
   |none=>simp at e2;subst e2;simp [e1]
   |some v=>simp at e2 ⊢;rw [e1];simp [e2]
 simp only [Instr.sliceAt,Sem.run_bind,run_underlying ht,Result.andThen_ok,Instr.slice,e3,hs,Sem.run_pure]
theorem aG2 {n c:Nat}{hi:Option Value}{G:Nat→Prop}(hl:vhi aB n c hi G):∃ hN,G hN∧(∀ c',c≤c'→QA n c' (hi.map (tr ι))=some hN)∧(hN=n∨hN≤c):=by
 unfold vhi at hl;split at hl
 ·exact⟨n,hl,fun _ _=>rfl,.inl rfl⟩
 ·rename_i k i;obtain⟨hb,hG⟩:=aG.1 hl;simp only [aB,Bool.and_eq_true,decide_eq_true_eq] at hb hG;refine⟨i.toNat,hG,fun c' hc=>?_,.inr (by omega)⟩;simp only [Option.map_some,gR,QA];rw [if_pos ⟨hb.1,by omega⟩]
 ·exact hl.elim
theorem IU {lo:Option Value}(h:isZero lo=true):MF (lo.map (tr ι))=some 0:=by
 unfold isZero at h;split at h
 ·rfl
 ·rfl
 ·cases h
theorem W5 {hi:Option Value}{c:Nat}(h:isZero hi=true):QA 0 c (hi.map (tr ι))=some 0:=by
 unfold isZero at h;split at h
 ·rfl
 ·simp [QA,gR]
 ·cases h
def Names (P:Program)(ι:Nat→Loc)(B nx:Nat)(w0:World)(h:Heap)(m:Sem Value)(K:KE):Prop :=
 ∃ v h' nx' ι',K v h' nx'∧eR ι' nx' v∧(∀ k,k<nx→ι' k=ι k)∧nx≤nx'∧∀ w,aS ι B h nx w→aS ι' B h' nx' w∧m.run P w=.ok (tr ι' v) w
theorem VL {w:World}(H:aS ι B h nx w){k b off ex q r x:Nat}(hι:ι k=.lay b off ex)(hx:(r=0∧x≤off+q)∨x=off+q):aS (ins ι nx (.lay b x 0)) B (V5 h nx k q r) (nx+1) w:=by
 unfold V5;have hmem:∀ {cs:List Value} {v:Value},v∈(cs.drop q).take r→v∈cs:=fun hv=>List.mem_of_mem_drop (List.mem_of_mem_take hv);have hget:∀ {cs:List Value} {i:Nat} {v:Value},((cs.drop q).take r)[i]? = some v→x=off+q∧cs[q+i]? = some v:=fun {cs i v} hv=>by
  rw [List.getElem?_take] at hv;split at hv
  ·rename_i hlt;rw [List.getElem?_drop] at hv;exact⟨by omega,hv⟩
  ·cases hv
 split
 ·rename_i g sz cs hk;split
  ·rename_i hq;have hq:=Nat.le_of_ble_eq_true hq;obtain⟨h1,h2,arr,t,h3,h4,h5⟩:j9 ι B w (.cells true g sz cs) (.lay b off ex):=hι▸H.obj k _ hk;refine (H.rem k).add _ _ ⟨h1,fun hg=>uV fun v hv=>a8 (h2 hg) (hmem hv),arr,t,h3,?_,fun i v hv=>?_⟩ ?_ (fun j o' hj _ b' hb he=>?_)
   ·have:((cs.drop q).take r).length=r:=(by simp;omega);rw [this];rcases hx with ⟨h6,h7⟩|h6
    ·omega
    ·omega
   ·obtain⟨h6,h7⟩:=hget hv;have hs:=H.sc k _ hk v (hmem (List.mem_of_getElem? hv));rw [l8 (ι:=ι) (fun j hj=>cE _ _ hj) hs,h6,Nat.add_assoc];exact h5 _ _ h7
   ·exact fun v hv=>iQ (by omega) (fun j hj=>cE _ _ hj) (H.sc k _ hk v (hmem hv))
   ·have hjk:k≠j:=fun e=>by
     subst e;rw [dF] at hj;simp at hj
    have hj':look h j=some o':=by
     rw [dF] at hj;split at hj
     ·cases hj
     ·exact hj
    refine H.sep k j _ o' hk hj' hjk rfl b' ?_ he;rw [hι];exact hb
  ·exact H.more _
 ·rename_i g sz cs hk;obtain⟨h1,h2,h5⟩:j9 ι B w (.cells false g sz cs) (.lay b off ex):=hι▸H.obj k _ hk;refine H.add _ _ ⟨h1,fun hg=>uV fun v hv=>a8 (h2 hg) (hmem hv),fun i v hv=>?_⟩ ?_ (fun j o' hj ha b' hb he=>?_)
  ·obtain⟨h6,h7⟩:=hget hv;have hs:=H.sc k _ hk v (hmem (List.mem_of_getElem? hv));rw [l8 (ι:=ι) (fun j hj=>cE _ _ hj) hs,h6,Nat.add_assoc];exact h5 _ _ h7
  ·exact fun v hv=>iQ (by omega) (fun j hj=>cE _ _ hj) (H.sc k _ hk v (hmem hv))
  ·have hb2:(ι k).CU=some b':=(by rw [hι];exact hb);rcases ha with ha|ha
   ·cases ha
   ·by_cases hjk:j=k
    ·subst hjk;rw [hk] at hj;injection hj with hj;subst hj;cases ha
    ·exact H.sep j k o' _ hj hk hjk ha b' he hb2
 ·exact H.more _
theorem IQ (hT:cH P T){t:TypeId}{x:Value}{lo hi mx:Option Value}{K:KE}(hl:tG aB T h nx t x lo hi mx K)(hx:eR ι nx x){w0:World}(H0:aS ι B h nx w0) :
  Names P ι B nx w0 h (Instr.sliceAt t (tr ι x) (lo.map (tr ι)) (hi.map (tr ι)) (mx.map (tr ι))) K:=by
 unfold tG at hl;split at hl
 case h_2=>exact hl.elim
 rename_i e s1 b1 z1 ht;split at hl
 ·exact hl.elim
 rename_i ei he;have hti:=hT t _ ht;have hei:=hT e _ he;have hts:=hti.sl rfl;split at hl
 ·split at hl
  case h_2=>exact hl.elim
  rename_i hz1 hz2;refine⟨_,_,_,ι,hl,by simp [eR,kP,gY,oS],fun _ _=>rfl,Nat.le_refl _,fun w H=>⟨H,?_⟩⟩;rw [c7,Option.map_none,j3 hts w (hei.sizeOf w) none (IU hz1) (W5 hz2) (Nat.le_refl _)];simp
 ·rename_i k o n c;have hx':k<nx∧((ι k).gJ=false→n=0∧c=0):=hx;obtain⟨hN,hG,hhi,hle⟩:=aG2 (ι:=ι) hl;split at hG
  ·refine⟨_,_,_,ι,hG,⟨hx'.1,fun e=>?_⟩,fun _ _=>rfl,Nat.le_refl _,fun w H=>⟨H,?_⟩⟩
   ·have:=hx'.2 e;omega
   ·cases hι:ι k with
    |nil p =>
     obtain⟨rfl,rfl⟩:=hx'.2 (by rw [hι];rfl);have h0:hN=0:=(by omega);subst h0;simp only [tr,dP,bR,dR,hι,Option.map_none];rw [j3 hts w (hei.sizeOf w) p (l:=0) rfl (hhi 0 (Nat.le_refl _)) (Nat.le_refl _)];simp
    |lay b off ex =>
     simp only [tr,dP,bR,dR,hι,Option.map_none];rw [j3 hts w (hei.sizeOf w) _ (l:=0) rfl (hhi (c+ex) (by omega)) (Nat.zero_le _)];simp [Addr.add_zero']
  ·rename_i kk l;obtain⟨hb,hG⟩:=aG.1 hG;simp only [aB,Bool.and_eq_true,decide_eq_true_eq] at hb;obtain⟨hb,hbc⟩:=hb;have hlo:MF ((some (Value.int kk l)).map (tr ι))=some l.toNat:=(by simp [MF,gR,hb.1]);split at hG
   ·rename_i wr g sz cs hk;rcases nM hG with ⟨hb2,hG⟩|⟨hb2,hG⟩
    ·simp only [aB,decide_eq_true_eq] at hb2 hG;refine⟨_,_,_,ι,hG,⟨hx'.1,fun e=>?_⟩,fun _ _=>rfl,Nat.le_refl _,fun w H=>⟨H,?_⟩⟩
     ·have:=hx'.2 e;omega
     ·cases hι:ι k with
      |nil p=>have:=hx'.2 (by rw [hι];rfl);omega
      |lay b off ex =>
       simp only [tr,dP,bR,dR,hι,Option.map_none];rw [j3 hts w (hei.sizeOf w) _ hlo (hhi (c+ex) (by omega)) (by omega),if_neg (by omega)];simp only [Option.map_some,Addr.add_lit,Nat.add_assoc];congr 2;omega
    ·simp only [aB,decide_eq_false_iff_not] at hb2 hG;cases hι:ι k with
     |nil p =>
      obtain⟨rfl,rfl⟩:=hx'.2 (by rw [hι];rfl);have h0:hN=0:=(by omega);subst h0;have hl0:l=0:=(by omega);subst hl0;refine⟨_,_,_,ins ι nx (.nil p),hG,⟨by simp,fun _=>⟨rfl,rfl⟩⟩,fun k hk=>cE _ _ hk,by omega,fun w H=>⟨H.more _,?_⟩⟩;simp only [tr,dP,bR,dR,hι,Option.map_none,bG];rw [j3 hts w (hei.sizeOf w) p (l:=0) (by simp [MF,gR]) (hhi 0 (Nat.le_refl _)) (Nat.le_refl _)];simp
     |lay b off ex =>
      refine⟨_,_,_,ins ι nx (.lay b (off+o+(if c+ex=l.toNat then 0 else l.toNat*ei.size)) ex),hG,⟨by simp,fun e=>by rw [bG] at e;cases e⟩,fun k hk=>cE _ _ hk,by omega,fun w H=>⟨H.more _,?_⟩⟩;simp only [tr,dP,bR,dR,hι,Option.map_none,bG];rw [j3 hts w (hei.sizeOf w) _ hlo (hhi (c+ex) (by omega)) (by omega)];have e1:hN - l.toNat=0:=(by omega);have e2:c+ex - l.toNat=ex:=(by omega);rw [e1,e2];by_cases hce:c+ex=l.toNat
      ·rw [if_pos hce,if_pos hce];simp only [Nat.add_zero,Nat.zero_add]
      ·rw [if_neg hce,if_neg hce];simp only [Option.map_some,Addr.add_lit,Nat.add_zero,Nat.zero_add]
   ·exact hG.elim
  ·exact hG.elim
 ·rename_i k o n c kk;split at hl
  case h_2=>exact hl.elim
  rename_i kk' hz;have hx':k<nx∧((ι k).gJ=false→n=0∧c=0):=hx;have hsl:∀ (w:World) (a:Option Addr) (m c':Nat),(Instr.sliceAt t (.slice a m c') (lo.map (tr ι)) (some (.int kk' 0)) (some (.int kk 0))).run P w=.ok (.slice a 0 0) w:=by
   intro w a m c';have e1:=IU (ι:=ι) hz;generalize lo.map (tr ι)=lo' at e1;cases lo' with
   |none =>
    simp [Instr.sliceAt,run_underlying hts,Instr.slice,Instr.sliceBounds,Instr.sliceBound,asIntOf,hei.sizeOf]
   |some v =>
    cases v <;> simp only [MF] at e1 <;> try (cases e1;done)
    rename_i k3 i;split at e1
    case isFalse=>cases e1
    have:i=0:=(by injection e1;omega);subst this;simp [Instr.sliceAt,run_underlying hts,Instr.slice,Instr.sliceBounds,Instr.sliceBound,asIntOf,hei.sizeOf]
  obtain⟨p,hp⟩:∃ p,∀ m c',∃ m' c'',tr ι (.slice (some ⟨k,o,none⟩) m c')=.slice p m' c'':=by
   cases hι:ι k with
   |nil p=>exact⟨p,fun m c'=>⟨m,c',by simp [tr,dP,bR,dR,hι]⟩⟩
   |lay b off ex=>exact⟨some ⟨b,off+o,none⟩,fun m c'=>⟨m,c'+ex,by simp [tr,dP,bR,dR,hι]⟩⟩
  refine⟨_,_,_,ins ι nx (.nil p),hl,⟨by simp,fun _=>by simp⟩,fun k hk=>cE _ _ hk,by omega,fun w H=>⟨?_,?_⟩⟩
  ·exact H.add .zero (.nil p) trivial trivial (fun k' o' _ _ b hb=>by cases hb)
  ·obtain⟨m',c'',e1⟩:=hp n c;rw [e1];have e2:tr (ins ι nx (.nil p)) (.slice (some ⟨nx,0,none⟩) 0 0)=.slice p 0 0:=(by simp [tr,dP,bR,dR,bG]);rw [e2];exact hsl w _ _ _
 ·rename_i k o n c kk m hm0;split at hl
  case h_3=>exact hl.elim
  case h_2 =>
   rename_i k2 u;obtain⟨hb,hG⟩:=aG.1 hl;simp only [aB,Bool.and_eq_true,decide_eq_true_eq] at hb hG;obtain⟨hb2,hb3,hb4,hb5⟩:=hb;have hx':k<nx∧((ι k).gJ=false→n=0∧c=0):=hx;cases hι:ι k with
   |nil p =>
    have:=(hx'.2 (by rw [hι];rfl)).2;omega
   |lay b off ex =>
    refine⟨_,_,_,ins ι nx (.lay b (off+o) 0),hG,⟨by simp,fun e=>by rw [bG] at e;cases e⟩,fun k hk=>cE _ _ hk,by omega,fun w H=>⟨VL H hι (.inr rfl),?_⟩⟩;have e1:tr ι (.slice (some ⟨k,o,none⟩) n c)=.slice (some ⟨b,off+o,none⟩) n (c+ex):=(by simp [tr,dP,bR,dR,hι]);have e2:∀ n c,tr (ins ι nx (.lay b (off+o) 0)) (.slice (some ⟨nx,0,none⟩) n c)=.slice (some ⟨b,off+o,none⟩) n c:=fun n c=>(by simp [tr,dP,bR,dR,bG]);rw [e1,e2];simp only [Option.map_some,Option.map_none,gR];have b1:∀ (hi2:Nat) (wh:_),m≤(hi2:Int)→(Instr.sliceBound (.int kk m) hi2 wh).run P w=.ok m.toNat w:=fun hi2 wh hh=>by
     simp [run_sliceBound_if,show 0≤m∧m≤(hi2:Int) from ⟨by omega,hh⟩]
    have b2:∀ (hi2:Nat) (wh:_),u≤(hi2:Int)→(Instr.sliceBound (.int k2 u) hi2 wh).run P w=.ok u.toNat w:=fun hi2 wh hh=>by
     simp [run_sliceBound_if,show 0≤u∧u≤(hi2:Int) from ⟨by omega,hh⟩]
    simp only [Instr.sliceAt,Sem.run_bind,run_underlying hts,Result.andThen_ok,Instr.slice,Instr.sliceBounds,b1 (c+ex) _ (by omega),b2 m.toNat _ (by omega),hei.sizeOf,Sem.run_pure];have hm1:m.toNat≠0:=(by omega);simp [hm1,Addr.add_lit,Nat.add_assoc]
  rename_i k1 l k2 u;obtain⟨hb,hG⟩:=aG.1 hl;simp only [aB,Bool.and_eq_true,decide_eq_true_eq] at hb hG;obtain⟨⟨hb1,hb2⟩,hb3,hb4,hb5⟩:=hb;have hx':k<nx∧((ι k).gJ=false→n=0∧c=0):=hx;cases hι:ι k with
  |nil p =>
   have:=(hx'.2 (by rw [hι];rfl)).2;omega
  |lay b off ex =>
   refine⟨_,_,_,ins ι nx (.lay b (off+o+(if m.toNat=l.toNat then 0 else l.toNat*ei.size)) 0),hG,⟨by simp,fun e=>by rw [bG] at e;cases e⟩,fun k hk=>cE _ _ hk,by omega,fun w H=>⟨VL H hι (by rcases Nat.eq_zero_or_pos (m.toNat - l.toNat) with h0|h0 <;> first|(rw [if_pos (by omega)];exact .inl ⟨by rw [h0,Nat.zero_mul],by omega⟩)|(rw [if_neg (by omega)];exact .inr (by omega))),?_⟩⟩;have e1:tr ι (.slice (some ⟨k,o,none⟩) n c)=.slice (some ⟨b,off+o,none⟩) n (c+ex):=(by simp [tr,dP,bR,dR,hι]);have e2:∀ n c,tr (ins ι nx (.lay b (off+o+(if m.toNat=l.toNat then 0 else l.toNat*ei.size)) 0)) (.slice (some ⟨nx,0,none⟩) n c)=.slice (some ⟨b,off+o+(if m.toNat=l.toNat then 0 else l.toNat*ei.size),none⟩) n c:=fun n c=>(by simp [tr,dP,bR,dR,bG]);rw [e1,e2];simp only [Option.map_some,gR];have b1:∀ (hi2:Nat) (wh:_),m≤(hi2:Int)→(Instr.sliceBound (.int kk m) hi2 wh).run P w=.ok m.toNat w:=fun hi2 wh hh=>by
    simp [run_sliceBound_if,show 0≤m∧m≤(hi2:Int) from ⟨by omega,hh⟩]
   have b2:∀ (hi2:Nat) (wh:_),u≤(hi2:Int)→(Instr.sliceBound (.int k2 u) hi2 wh).run P w=.ok u.toNat w:=fun hi2 wh hh=>by
    simp [run_sliceBound_if,show 0≤u∧u≤(hi2:Int) from ⟨by omega,hh⟩]
   have b3:∀ (hi2:Nat) (wh:_),l≤(hi2:Int)→(Instr.sliceBound (.int k1 l) hi2 wh).run P w=.ok l.toNat w:=fun hi2 wh hh=>by
    simp [run_sliceBound_if,show 0≤l∧l≤(hi2:Int) from ⟨by omega,hh⟩]
   simp only [Instr.sliceAt,Sem.run_bind,run_underlying hts,Result.andThen_ok,Instr.slice,Instr.sliceBounds,b1 (c+ex) _ (by omega),b2 m.toNat _ (by omega),b3 u.toNat _ (by omega),hei.sizeOf,Sem.run_pure];by_cases hml:m.toNat=l.toNat
   ·simp [hml]
   ·simp [hml,Addr.add_lit,Nat.add_assoc]
 ·exact hl.elim
end
def GZ (h:Heap)(sz:Nat)(x:Value)(G:Nat→List Value→Prop):Prop :=
 match x with
 |.slice none 0 0=>G 0 []
 |.slice (some ⟨k,o,none⟩) m _ =>
  (match look h k with
  |some (.cells _ _ _ cs)=>dI (Nat.ble (o+m*sz) cs.length) (G m ((cs.drop o).take (m*sz)))
  |some .zero=>(match m with|0=>G 0 []|_=>False)
  |none=>(match m with|0=>G 0 []|_=>False)
  |_=>False)
 |_=>False
def jY (A:Ar)(T:cM)(h:Heap)(nx:Nat)(t:TypeId)(l c:Value)(K:KE):Prop :=
 match look T t,l,c with
 |some { kind:=.sl e,.. },.int .i64 i,.int .i64 j =>
  (match look T e with
  |some ei=>dI (A.andB (A.andB (A.le 0 i) (A.le i j)) (A.andB (A.le j 1000000000) (Nat.ble ei.bytes 1000)))
   (K (.slice (some ⟨nx,0,none⟩) (A.toN i) (A.toN j)) (bV h nx (.cells true false ei.size (rep (A.toN j) ei.zv.cells.toList))) (nx+1))
  |none=>False)
 |_,_,_=>False
def lK (A:Ar)(T:cM)(h:Heap)(nx:Nat)(st xt:TypeId)(s x:Value)(K:KE):Prop :=
 match look T st,look T xt with
 |some { kind:=.sl e,.. },some { kind:=.int _,.. } =>
  (match look T e with
  |some ei=>(match s,x,Nat.ble ei.bytes 1000 with
   |.slice none 0 0,.int .i64 i,true=>dI (A.andB (A.lt 0 i) (A.le i 1000000000)) (K (.slice (some ⟨nx,0,none⟩) (A.toN i) (A.toN i)) (bV h nx (.cells true false ei.size (rep (A.toN i) ei.zv.cells.toList))) (nx+1))
   |_,_,_=>False)
  |none=>False)
 |some { kind:=.sl e,.. },some { kind:=.sl _,.. } =>
  (match look T e with
  |none=>False
  |some ei =>
   match Nat.ble ei.bytes 1000 with
   |false=>False
   |true =>
    GZ h ei.size x fun m src =>
     (match s with
     |.slice none 0 0=>br (Nat.beq m 0) (fun _=>K (.slice none 0 0) h nx)
      (fun _=>dI (Nat.ble m 1000000000) (K (.slice (some ⟨nx,0,none⟩) m m) (bV h nx (.cells true false ei.size src)) (nx+1)))
     |.slice (some ⟨k,o,none⟩) n c =>
      (match look h k with
      |some .zero=>(match n,c with
       |0,0=>br (Nat.beq m 0) (fun _=>K (.slice (some ⟨k,o,none⟩) 0 0) h nx)
        (fun _=>dI (Nat.ble m 1000000000) (K (.slice (some ⟨nx,0,none⟩) m m) (bV h nx (.cells true false ei.size src)) (nx+1)))
       |_,_=>False)
      |some (.cells true _ sz cs) =>
       br (Nat.ble (n+m) c)
        (fun _=>dI (Nat.ble (o+(n+m)*ei.size) cs.length) (K (.slice (some ⟨k,o,none⟩) (n+m) c) (wG h k (.cells true false sz (dM cs (o+n*ei.size) src))) nx))
        (fun _=>dI (A.andB (A.andB (Nat.ble (n+m) 1000000000) (Nat.ble (o+n*ei.size) cs.length)) (A.andB (Nat.beq (o+c*ei.size) cs.length) (Nat.beq sz ei.size)))
         (K (.slice (some ⟨nx,0,none⟩) (n+m) (n+m)) (bV (rem h k) nx (.cells true false ei.size ((cs.drop o).take (n*ei.size)++src))) (nx+1)))
      |_=>False)
     |_=>False))
 |_,_=>False
section
variable {P:Program}{T:cM}{ι:Nat→Loc}{B nx:Nat}{h:Heap}
theorem aS.drawn {w:World}(H:aS ι B h nx w)(c:Nat):aS ι B h nx { w with drawn:=c } :=
 H.AD (fun _ _ _ _ _=>rfl) (Nat.le_refl _)
theorem aS.win {w:World}(H:aS ι B h nx w){k:Nat}{wr g:Bool}{sz:Nat}{cs:List Value}(hk:look h k=some (.cells wr g sz cs)){b off e:Nat}(hι:ι k=.lay b off e){o n:Nat}(hl:o+n≤cs.length) :
  (loadCells ⟨b,off+o,none⟩ n).run P w=.ok (((cs.drop o).take n).map (bR ι)).toArray w:=by
 have hlen:(((cs.drop o).take n).map (bR ι)).length=n:=(by simp;omega);have:=run_loadCells_list (P:=P) w ⟨b,off+o,none⟩ (((cs.drop o).take n).map (bR ι)) (fun j v hj=>by
  obtain⟨u,hu,rfl⟩:=oK hj;rw [List.getElem?_take] at hu;split at hu
  case isFalse=>cases hu
  rw [List.getElem?_drop] at hu;obtain⟨b',off',e',hι',hc⟩:=H.cell hk hu;rw [hι] at hι';injection hι' with e1 e2 e3;subst e1;subst e2;rw [Addr.add_lit,Nat.add_assoc];exact hc)
 rwa [hlen] at this
theorem aDA {sz:Nat}{x:Value}{G:Nat→List Value→Prop}(hl:GZ h sz x G)(hx:eR ι nx x){w:World}(H:aS ι B h nx w) :
  ∃ m src,G m src∧src.length=m*sz∧(∀ v∈src,gY ι nx v)∧Src P w sz (tr ι x) m (src.map (bR ι)):=by
 unfold GZ at hl;split at hl
 ·exact⟨0,[],hl,by simp,by simp,⟨by simp [c7,Builtin.lenOf],fun c=>by simp [c7,Builtin.firstCells]⟩⟩
 ·rename_i k o m c;have hx':k<nx∧((ι k).gJ=false→m=0∧c=0):=hx;split at hl
  ·rename_i wr g sz' cs hk;obtain⟨hb,hG⟩:=aG.1 hl;have hb:=Nat.le_of_ble_eq_true hb;refine⟨m,_,hG,by simp;omega,fun v hv=>H.sc k _ hk v (List.mem_of_mem_drop (List.mem_of_mem_take hv)),?_⟩;cases hι:ι k with
   |nil p =>
    obtain⟨rfl,rfl⟩:=hx'.2 (by rw [hι];rfl);refine⟨by simp [tr,dP,bR,dR,hι,Builtin.lenOf],fun c=>?_⟩;cases p with
    |none=>simp [tr,dP,bR,dR,hι,Builtin.firstCells]
    |some p=>simp [tr,dP,bR,dR,hι,Builtin.firstCells,loadCells,loadCellsFrom]
   |lay b off e =>
    refine⟨by simp [tr,dP,bR,dR,hι,Builtin.lenOf],fun c=>?_⟩;simp only [tr,dP,bR,dR,hι,Builtin.firstCells];exact (H.drawn c).win hk hι hb
  ·rename_i hk;split at hl
   case h_2=>exact hl.elim
   refine⟨0,[],hl,by simp,by simp,?_⟩;have hob:=H.obj k _ hk;cases hι:ι k with
   |nil p =>
    refine⟨by simp [tr,dP,bR,dR,hι,Builtin.lenOf],fun c=>?_⟩;cases p with
    |none=>simp [tr,dP,bR,dR,hι,Builtin.firstCells]
    |some p=>simp [tr,dP,bR,dR,hι,Builtin.firstCells,loadCells,loadCellsFrom]
   |lay b off e=>rw [hι] at hob;exact hob.elim
  ·rename_i hk;split at hl
   case h_2=>exact hl.elim
   refine⟨0,[],hl,by simp,by simp,?_⟩;cases hι:ι k with
   |nil p =>
    refine⟨by simp [tr,dP,bR,dR,hι,Builtin.lenOf],fun c=>?_⟩;cases p with
    |none=>simp [tr,dP,bR,dR,hι,Builtin.firstCells]
    |some p=>simp [tr,dP,bR,dR,hι,Builtin.firstCells,loadCells,loadCellsFrom]
   |lay b off e =>
    refine⟨by simp [tr,dP,bR,dR,hι,Builtin.lenOf],fun c=>?_⟩;simp [tr,dP,bR,dR,hι,Builtin.firstCells,loadCells,loadCellsFrom]
  ·exact hl.elim
 ·exact hl.elim
theorem aS.grown {w:World}(H:aS ι B h nx w)(e:TypeId)(cs:List Value)(sz cap need:Nat)(zs:List Value)(hz:zs.length=(cap - need)*sz)(hs:∀ v∈cs,gY ι nx v) :
  aS (ins ι nx (.lay w.heap.size 0 (cap - need))) B (bV h nx (.cells true false sz cs)) (nx+1) (w.alloc (.cells (cs.map (bR ι)++zs).toArray e)):=by
 refine (H.ext (dD w _)).add _ _ ?_ ?_ (fun k o' hk _ b hb e'=>?_)
 ·refine⟨H.size,by simp,_,e,(MapKept.heap_alloc w _).1,by simp [hz],fun i v hv=>?_⟩;have hlt:=(List.getElem?_eq_some_iff.1 hv).1;rw [Nat.zero_add,List.getElem?_toArray,List.getElem?_append_left (by simpa using hlt),List.getElem?_map,hv];simp only [Option.map_some];rw [l8 (ι:=ι) (fun k hk=>cE _ _ hk) (hs v (List.mem_of_getElem? hv))]
 ·intro v hv;exact iQ (by omega) (fun k hk=>cE _ _ hk) (hs v hv)
 ·have h1:=(H.obj k o' hk).lt e';have:w.heap.size=b:=(by simpa [Loc.CU] using hb);omega
theorem N8 {cs:List Value}{o:Nat}:dM cs o []=cs:=by simp [dM]
theorem aS.aIL {w:World}(H:aS ι B h nx w){k:Nat}{g:Bool}{sz:Nat}{cs:List Value}(hk:look h k=some (.cells true g sz cs)){b off e:Nat}(hι:ι k=.lay b off e){o:Nat}{vs:List Value}(ho:o+vs.length≤cs.length)
  (hs:∀ v∈vs,gY ι nx v) :
  ∃ w',(storeCells ⟨b,off+o,none⟩ (vs.map (bR ι))).run P w=.ok () w'∧gO B w w'∧aS ι B (wG h k (.cells true false sz (dM cs o vs))) nx w':=by
 by_cases hne:vs=[]
 ·subst hne;refine⟨w,by simp [storeCells],gO.refl _ _,?_⟩;rw [N8];have hob:=H.obj k _ hk;rw [hι] at hob;refine H.set hk rfl ?_ (fun v hv=>H.OG hk hv) rfl (fun _ _=>rfl) (Nat.le_refl _);rw [hι];exact⟨hob.1,by simp,hob.2.2⟩
 ·obtain⟨b',off',e',w',hι',h1,h2,h3⟩:=H.put (P:=P) hk ho hs hne;rw [hι] at hι';injection hι' with e1 e2 e3;subst e1;subst e2;exact⟨w',h1,h2,h3⟩
end
end Go.Aw
end
