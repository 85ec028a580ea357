/-
  Parts of the proof, put together. No condition.
-/
import Derived.Test.YtjahkcbdecgbhaaGreatQBf
set_option linter.unusedSimpArgs false
set_option linter.unusedVariables false
noncomputable section
namespace Go.Aw
set_option maxRecDepth 100000
set_option maxHeartbeats 4000000
def dA (l:List Pt)(m:List Ed)(i:Nat):Dt:=⟨(dQ l (cN m i).b).1 - (dQ l (cN m i).a).1,(dQ l (cN m i).b).2 - (dQ l (cN m i).a).2,2*i,(cN m i).a,(cN m i).b⟩
def dB (l:List Pt)(m:List Ed)(i:Nat):Dt:=⟨(dQ l (cN m i).a).1 - (dQ l (cN m i).b).1,(dQ l (cN m i).a).2 - (dQ l (cN m i).b).2,2*i+1,(cN m i).b,(cN m i).a⟩
def a9 (l:List Pt)(m:List Ed):Nat→List Dt
 |0=>[]
 |i+1=>a9 l m i++[dA l m i,dB l m i]
theorem bP (l:List Pt)(m:List Ed):∀ i,(a9 l m i).length=2*i
 |0=>rfl
 |i+1=>by rw [a9,List.length_append,bP];rfl
def xT (m:List Ed)(c2:Nat)(j:Int):List (Nat × Value):=[(1,.pointer (some ⟨2,0,none⟩)),(3,.pointer (some ⟨3,0,none⟩)),(20,.slice (some ⟨1,0,none⟩) m.length c2),(21,iv m.length),(22,iv j)]
def yQ (l:List Pt)(m:List Ed)(c1 c2:Nat)(n:Int)(k:Nat)(D:List Dt):Heap :=
 (6,.cells true false 5 (flat rN.fl D))::(5,.cells true false 1 (rep l.length [aQ]))::(3,.cells true false 1 [.pointer (some ⟨4,0,none⟩)])::(4,.cells true false 1 (qD l.length m.length c1 c2 n (.slice (some ⟨6,0,none⟩) k k) (.slice (some ⟨5,0,none⟩) l.length l.length) aQ)) ::
 (2,aW l.length m.length c1 c2 n)::aC aP aR l m
theorem bm2 {k:Nat}{X Y:Prop}(h:Y):(match (generalizing:=false) Nat.ble (k+2) k with|true=>X|false=>Y):=by
 cases hb:Nat.ble (k+2) k with
 |false=>exact h
 |true=>have:=Nat.le_of_ble_eq_true hb;omega
theorem aDD {i N s:Nat}{p:Prop}(hN:N=i*s)(hi:i+2≤1000000000)
  (h:aA.A.andB (aA.A.andB ((i+2).ble 1000000000) ((0+i*s).ble N)) (aA.A.andB ((0+i*s).beq N) (Nat.beq s s))=false):p:=by
 exfalso;have h1:(i+2).ble 1000000000=true:=Nat.ble_eq_true_of_le hi;have h2:(0+i*s).ble N=true:=Nat.ble_eq_true_of_le (by omega);have h3:(0+i*s).beq N=true:=(by rw [hN,Nat.zero_add];exact Nat.beq_refl _);rw [h1,h2,h3,Nat.beq_refl] at h;cases h
theorem Q8 {α:Type}(E:El α)(o:List α)(x y:α){n:Nat}(hn:n=o.length):((flat E.fl o).drop 0).take (n*E.sz)++(E.fl x++E.fl y)=flat E.fl (o++[x,y]):=by
 subst hn;rw [List.drop_zero,← bF E o,List.take_length,tD];simp [flat]
theorem qZ {l:List Pt}{m:List Ed}{n:Int}(h:cY l m n=true){i:Nat}(hi:i<l.length):0≤(dL l i).1∧(dL l i).1≤10000∧0≤(dL l i).2∧(dL l i).2≤10000:=by
 simp only [cY,Bool.and_eq_true] at h;have h1:=gG h.2.1 hi;simp only [CK,aX,Bool.and_eq_true,decide_eq_true_eq] at h1;omega
theorem aF9:dZ aG0:=RT (nQ.cons (aEM 1000) .nil).look
end Go.Aw
end

noncomputable section
namespace Go.Aw
set_option maxRecDepth 100000
def bK (ls:List (List Int))(i:Nat):List Int:=ls.getD i []
theorem tY (ls:List (List Int)){s:Nat}(hs:s<ls.length)(x:List Int)(i:Nat):bK (ls.set s x) i=if i=s then x else bK ls i:=by
 unfold bK;rw [List.getD_eq_getElem?_getD,List.getD_eq_getElem?_getD,List.getElem?_set];by_cases h:s=i
 ·subst h;simp [hs]
 ·rw [if_neg h,if_neg (fun e=>h e.symm)]
def tN (s i:Nat):Nat:=if i=s then 7 else i+1000
def tV (q:Nat)(l:List Int):Value:=if l.length=0 then aQ else .slice (some ⟨q,0,none⟩) l.length l.length
def tC (s:Nat)(ls:List (List Int)):List Value:=(List.range ls.length).map fun i=>tV (tN s i) (bK ls i)
theorem lA (s:Nat)(ls:List (List Int)):(tC s ls).length=ls.length:=by simp [tC]
theorem BG {s:Nat}{ls:List (List Int)}{i:Nat}(hi:i<ls.length):(tC s ls)[i]? = some (tV (tN s i) (bK ls i)):=by
 unfold tC;rw [List.getElem?_map,List.getElem?_range hi];rfl
theorem E9 {s:Nat}{ls:List (List Int)}{i o:Nat}(hi:i<ls.length)(ho:o=i*1):nth (tC s ls) o=some (tV (tN s i) (bK ls i)):=by
 rw [wP,ho,Nat.mul_one];exact BG hi
theorem OR {cs:List Value}{i o:Nat}{v:Value}(ho:o=i)(hi:i<cs.length):dM cs o [v]=cs.set i v:=by
 subst ho;apply List.ext_getElem?;intro j;rw [NQ (by simp;omega),List.getElem?_set];by_cases e:o=j
 ·subst e;rw [if_pos ⟨Nat.le_refl _,by simp⟩,if_pos rfl,if_pos hi,Nat.sub_self];rfl
 ·rw [if_neg (by simp;omega),if_neg e]
def ob (L:List Int):aV:=.cells true false 1 (flat aO.fl L)
def tH (s:Nat)(ls:List (List Int)):Nat→Heap
 |0=>[]
 |n+1=>if n=s∨(bK ls n).length=0 then tH s ls n else (n+1000,ob (bK ls n))::tH s ls n
theorem A5 {s:Nat}{ls:List (List Int)}:∀ {n:Nat} {p:Nat × aV},p∈tH s ls n→∃ i,i<n∧i≠s∧(bK ls i).length≠0∧p=(i+1000,ob (bK ls i))
 |0,p,h=>by cases h
 |n+1,p,h=>by
  unfold tH at h;split at h
  ·obtain⟨i,h1,h2⟩:=A5 h;exact⟨i,by omega,h2⟩
  ·rename_i hc;rcases List.mem_cons.1 h with rfl|h
   ·exact⟨n,Nat.lt_succ_self n,fun e=>hc (.inl e),fun e=>hc (.inr e),rfl⟩
   ·obtain⟨i,h1,h2⟩:=A5 h;exact⟨i,by omega,h2⟩
theorem bB {α:Type}{k n:Nat}{v:α}{r:List (Nat × α)}(h:k≠n):look ((k,v)::r) n=look r n:=by
 rw [aE];split
 ·rename_i hb;exact absurd (beq_true hb) h
 ·rfl
theorem kD {s:Nat}{ls:List (List Int)}{i:Nat}(h1:i≠s)(h2:(bK ls i).length≠0):∀ {n:Nat},i<n→look (tH s ls n) (i+1000)=some (ob (bK ls i))
 |0,h=>by omega
 |n+1,h=>by
  unfold tH;by_cases e:i=n
  ·subst e;rw [if_neg (by rintro (e|e);exact h1 e;exact h2 e),aE,Nat.beq_refl]
  ·split
   ·exact kD h1 h2 (by omega)
   ·rw [bB (by omega)];exact kD h1 h2 (by omega)
theorem aBS {s:Nat}{ls:List (List Int)}{k n:Nat}(h:k<1000∨1000+n≤k):look (tH s ls n) k=none:=by
 cases hl:look (tH s ls n) k with
 |none=>rfl
 |some o =>
  obtain⟨i,h1,_,_,h2⟩:=A5 (aZ hl);injection h2 with h2 _;omega
theorem YP {s:Nat}{ls:List (List Int)}:∀ {n:Nat},(∀ i,i<n→(bK ls i).length=0)→tH s ls n=[]
 |0,_=>rfl
 |n+1,h=>by
  unfold tH;rw [if_pos (.inr (h n (Nat.lt_succ_self n)))];exact YP fun i hi=>h i (by omega)
def WX (L:List Int):Heap:=if L.length=0 then [] else [(7,ob L)]
def fW (l:List Pt)(m:List Ed)(c1 c2:Nat)(n:Int)(k:Nat)(D:List Dt)(s:Nat)(ls:List (List Int)):Heap :=
 (6,.cells true false 5 (flat rN.fl D))::(5,.cells true false 1 (tC s ls))::(3,.cells true false 1 [.pointer (some ⟨4,0,none⟩)])::(4,.cells true false 1 (qD l.length m.length c1 c2 n (.slice (some ⟨6,0,none⟩) k k) (.slice (some ⟨5,0,none⟩) l.length l.length) aQ)) ::
 (2,aW l.length m.length c1 c2 n)::(0,.cells false true aP.sz (flat aP.fl l))::(1,.cells false true aR.sz (flat aR.fl m))::(WX (bK ls s)++tH s ls ls.length)
def oO (k:Nat)(j:Int):List (Nat × Value):=[(3,.pointer (some ⟨3,0,none⟩)),(89,.slice (some ⟨6,0,none⟩) k k),(90,iv k),(91,iv j)]
theorem aD7 {ρ:Nat→Nat}{q a b:Nat}:bN ρ (.slice (some ⟨q,0,none⟩) a b)=.slice (some ⟨ρ q,0,none⟩) a b:=rfl
theorem FF {ρ:Nat→Nat}{q:Nat}{L:List Int}:bN ρ (tV q L)=tV (ρ q) L:=by
 unfold tV;split
 ·rfl
 ·rfl
theorem aIg {q n:Nat}{L:List Int}(h:q<n):A8 n (tV q L):=by
 unfold tV;split
 ·exact cR rfl
 ·exact⟨h,fun h=>by cases h⟩
theorem HY {s n:Nat}{ls:List (List Int)}(h7:7<n)(hn:ls.length+1000≤n):∀ v∈tC s ls,A8 n v:=by
 intro v hv;unfold tC at hv;obtain⟨i,hi,rfl⟩:=List.mem_map.1 hv;have:=List.mem_range.1 hi;refine aIg ?_;unfold tN;split <;> omega
def rh2 (s s':Nat):Nat→Nat:=rn [(7,if s'=s then 2002 else s'+1000),(s+1000,2002)]
theorem II (s s':Nat):rh2 s s' 7=if s'=s then 2002 else s'+1000:=rfl
theorem VH {s s' k:Nat}(h:k<7):rh2 s s' k=k:=by
 unfold rh2 rn;rw [bB (by omega),bB (by omega)];rfl
theorem BP {s s' i:Nat}:rh2 s s' (i+1000)=if i=s then 2002 else i+1000:=by
 unfold rh2 rn;rw [bB (by omega)];by_cases e:i=s
 ·rw [if_pos e,e,aE,Nat.beq_refl]
 ·rw [if_neg e,bB (by omega)];rfl
theorem aHU (s s' i:Nat)(hi:i=s'→s'≠s→i≠s):rh2 s s' (tN s' i)=if i=s then 2002 else i+1000:=by
 unfold tN;by_cases e:i=s'
 ·rw [if_pos e,II];by_cases e2:s'=s
  ·rw [if_pos e2,if_pos (e.trans e2)]
  ·rw [if_neg e2,if_neg (hi e e2),e]
 ·rw [if_neg e,BP]
def Fx (v:Value):Prop:=(∃ q a b,q<7∧v=.slice (some ⟨q,0,none⟩) a b)∨(∃ q,q<7∧v=.pointer (some ⟨q,0,none⟩))∨gS v=true
theorem Fx.fV {ρ:Nat→Nat}(hρ:∀ k,k<7→ρ k=k){v:Value}(h:Fx v):bN ρ v=v:=by
 rcases h with ⟨q,a,b,hq,rfl⟩|⟨q,hq,rfl⟩|h
 ·rw [aD7,hρ q hq]
 ·show Value.pointer (some ⟨ρ q,0,none⟩)=_;rw [hρ q hq]
 ·exact lL h
theorem Fx.nm {v:Value}{n:Nat}(hn:7≤n)(h:Fx v):A8 n v:=by
 rcases h with ⟨q,a,b,hq,rfl⟩|⟨q,hq,rfl⟩|h
 ·exact⟨Nat.lt_of_lt_of_le hq hn,fun h=>by cases h⟩
 ·exact⟨Nat.lt_of_lt_of_le hq hn,rfl⟩
 ·exact cR h
theorem IF {ρ:Nat→Nat}(hρ:∀ k,k<7→ρ k=k){n:Nat}(hn:7≤n){wr g:Bool}{sz:Nat}{cs:List Value}(h:∀ v∈cs,Fx v):bO ρ n (.cells wr g sz cs) (.cells wr g sz cs):=by
 refine⟨rfl,rfl,rfl,?_,fun v hv=>(h v hv).nm hn⟩
 conv=>lhs;rw [← List.map_id cs]
 exact List.map_congr_left fun v hv=>((h v hv).fV hρ).symm
theorem J5 {α:Type}(E:El α)(l:List α):∀ v∈flat E.fl l,Fx v:=fun v hv=>.inr (.inr (a8 (aI E l) hv))
theorem V8 {q a b:Nat}(h:q<7):Fx (.slice (some ⟨q,0,none⟩) a b):=.inl ⟨q,a,b,h,rfl⟩
theorem aKU {q:Nat}(h:q<7):Fx (.pointer (some ⟨q,0,none⟩)):=.inr (.inl ⟨q,h,rfl⟩)
theorem aFB {v:Value}(h:gS v=true):Fx v:=.inr (.inr h)
def rO (l:List Pt)(m:List Ed)(c1 c2:Nat)(n:Int)(k:Nat)(D:List Dt):Heap :=
 [(6,.cells true false 5 (flat rN.fl D)),(3,.cells true false 1 [.pointer (some ⟨4,0,none⟩)]),(4,.cells true false 1 (qD l.length m.length c1 c2 n (.slice (some ⟨6,0,none⟩) k k) (.slice (some ⟨5,0,none⟩) l.length l.length) aQ)),
 (2,aW l.length m.length c1 c2 n),(0,.cells false true aP.sz (flat aP.fl l)),(1,.cells false true aR.sz (flat aR.fl m))]
theorem xI {ρ:Nat→Nat}(hρ:∀ k,k<7→ρ k=k){N:Nat}(hN:7≤N){l:List Pt}{m:List Ed}{c1 c2:Nat}{n:Int}{k:Nat}{D:List Dt}:∀ p∈rO l m c1 c2 n k D,p.1<7∧p.1≠5∧bO ρ N p.2 p.2:=by
 unfold rO;refine List.forall_mem_cons.2 ⟨⟨Nat.le_of_ble_eq_true rfl,Nat.ne_of_beq_eq_false rfl,IF hρ hN (J5 _ _)⟩,List.forall_mem_cons.2 ⟨⟨Nat.le_of_ble_eq_true rfl,Nat.ne_of_beq_eq_false rfl,IF hρ hN ?_⟩,List.forall_mem_cons.2 ⟨⟨Nat.le_of_ble_eq_true rfl,Nat.ne_of_beq_eq_false rfl,IF hρ hN ?_⟩,List.forall_mem_cons.2 ⟨⟨Nat.le_of_ble_eq_true rfl,Nat.ne_of_beq_eq_false rfl,IF hρ hN ?_⟩,List.forall_mem_cons.2 ⟨⟨Nat.le_of_ble_eq_true rfl,Nat.ne_of_beq_eq_false rfl,IF hρ hN (J5 _ _)⟩,List.forall_mem_cons.2 ⟨⟨Nat.le_of_ble_eq_true rfl,Nat.ne_of_beq_eq_false rfl,IF hρ hN (J5 _ _)⟩,fun _ h=>(by cases h)⟩⟩⟩⟩⟩⟩
 ·exact List.forall_mem_cons.2 ⟨aKU (by decide),fun _ h=>(by cases h)⟩
 ·exact List.forall_mem_cons.2 ⟨V8 (by decide),List.forall_mem_cons.2 ⟨V8 (by decide),List.forall_mem_cons.2 ⟨aFB rfl,List.forall_mem_cons.2 ⟨V8 (by decide),List.forall_mem_cons.2 ⟨V8 (by decide),List.forall_mem_cons.2 ⟨aFB rfl,fun _ h=>(by cases h)⟩⟩⟩⟩⟩⟩
 ·exact List.forall_mem_cons.2 ⟨V8 (by decide),List.forall_mem_cons.2 ⟨V8 (by decide),List.forall_mem_cons.2 ⟨aFB rfl,fun _ h=>(by cases h)⟩⟩⟩
theorem uF {l:List Pt}{m:List Ed}{c1 c2:Nat}{n:Int}{k:Nat}{D:List Dt}{s:Nat}{ls:List (List Int)}{p:Nat × aV}(h:p∈fW l m c1 c2 n k D s ls) :
  p∈rO l m c1 c2 n k D∨p=(5,.cells true false 1 (tC s ls))∨((bK ls s).length≠0∧p=(7,ob (bK ls s)))∨∃ i,i<ls.length∧i≠s∧(bK ls i).length≠0∧p=(i+1000,ob (bK ls i)):=by
 unfold fW at h;unfold rO;simp only [List.mem_cons,List.mem_append,List.not_mem_nil,or_false] at h ⊢;rcases h with h|h|h|h|h|h|h|h|h
 ·exact .inl (.inl h)
 ·exact .inr (.inl h)
 ·exact .inl (.inr (.inl h))
 ·exact .inl (.inr (.inr (.inl h)))
 ·exact .inl (.inr (.inr (.inr (.inl h))))
 ·exact .inl (.inr (.inr (.inr (.inr (.inl h)))))
 ·exact .inl (.inr (.inr (.inr (.inr (.inr h)))))
 ·unfold WX at h;split at h
  ·cases h
  ·rename_i hc;exact .inr (.inr (.inl ⟨hc,by simpa using h⟩))
 ·obtain⟨i,h1,h2,h3,h4⟩:=A5 h;exact .inr (.inr (.inr ⟨i,h1,h2,h3,h4⟩))
theorem AN {ρ:Nat→Nat}{n:Nat}{L:List Int}:bO ρ n (ob L) (ob L):=aM (aI _ _)
theorem F5 {ρ:Nat→Nat}{s':Nat}{ls':List (List Int)}{cs:List Value}(hl:cs.length=ls'.length)(h:∀ i,i<ls'.length→cs[i]? = some (tV (ρ (tN s' i)) (bK ls' i))):cs=(tC s' ls').map (bN ρ):=by
 apply List.ext_getElem?;intro i;by_cases hi:i<ls'.length
 ·rw [h i hi,List.getElem?_map,BG hi];simp only [Option.map_some,FF]
 ·rw [List.getElem?_eq_none (by omega),List.getElem?_eq_none (by rw [List.length_map,lA];omega)]
section
variable {l:List Pt}{m:List Ed}{c1 c2:Nat}{n:Int}{k:Nat}{D:List Dt}{s s' q:Nat}{ls:List (List Int)}{x j:Int}{e:List (Nat × Value)}{h:Heap}{nx:Nat}{I:KS}
theorem aA0 {ρ:Nat→Nat}(hρ:∀ k,k<7→ρ k=k)(he:∀ p∈oO k j,look e p.1=some p.2):∀ t v,look (oO k j) t=some v→look e t=some (fV ρ v)∧wJ 2000 v:=by
 intro t v hv;have hm:=aZ hv;have h1:=he _ hm;unfold oO at hm;simp only [List.mem_cons,List.not_mem_nil,or_false] at hm;rw [h1];rcases hm with hm|hm|hm|hm <;> (injection hm with _ hm;subst hm)
 ·exact⟨by show some (Value.pointer (some ⟨3,0,none⟩))=some (Value.pointer (some ⟨ρ 3,0,none⟩));rw [hρ 3 (by decide)],by decide,rfl⟩
 ·exact⟨by show some (Value.slice (some ⟨6,0,none⟩) k k)=some (Value.slice (some ⟨ρ 6,0,none⟩) k k);rw [hρ 6 (by decide)],by decide,fun h=>by cases h⟩
 ·exact⟨by rw [fV,iB rfl],bU rfl⟩
 ·exact⟨by rw [fV,iB rfl],bU rfl⟩
theorem aER (hs:s<ls.length)(hn:ls.length≤1000)(hI:I (oO k j) (fW l m c1 c2 n k D s' (ls.set s (bK ls s++[x]))) 2000)(he:∀ p∈oO k j,look e p.1=some p.2)
  (hb:∀ p∈rO l m c1 c2 n k D,look h p.1=some p.2) (hq:q=(bK ls s).length+1) (h5:look h 5=some (.cells true false 1 ((tC s ls).set s (.slice (some ⟨2002,0,none⟩) q q))))
  (h2:look h 2002=some (ob (bK ls s++[x]))) (ht:∀ i,i<ls.length→i≠s→(bK ls i).length≠0→look h (i+1000)=some (ob (bK ls i))):qV 2 I e h nx:=by
 have hat:∀ i,bK (ls.set s (bK ls s++[x])) i=if i=s then bK ls s++[x] else bK ls i:=tY ls hs _
 have hl:(ls.set s (bK ls s++[x])).length=ls.length:=List.length_set;have hρ:∀ k,k<7→rh2 s s' k=k:=fun k hk=>VH hk;generalize ls.set s (bK ls s++[x])=ls' at hI hat hl;refine⟨oO k j,fW l m c1 c2 n k D s' ls',2000,rh2 s s',hI,aA0 hρ he,?_,?_,fun k hk=>VH (by omega),by omega⟩
 ·intro k' o hk;rcases uF (aZ hk) with hm|hm|⟨h7,hm⟩|⟨i,h1,h3,h4,hm⟩
  ·obtain⟨a1,_,a2⟩:=xI hρ (N:=2000) (by omega) _ hm;simp only at a1 a2;exact⟨by omega,o,by rw [hρ k' a1];exact hb _ hm,a2⟩
  ·injection hm with e1 e2;subst e1 e2;refine⟨by omega,.cells true false 1 ((tC s ls).set s (.slice (some ⟨2002,0,none⟩) q q)),by rw [hρ 5 (by omega)];exact h5,rfl,rfl,rfl,F5 (by rw [List.length_set,lA,hl]) fun i hi=>?_,HY (by omega) (by omega)⟩;rw [hl] at hi;rw [aHU s s' i (fun e1 e2 e3=>e2 (e1.symm.trans e3)),List.getElem?_set,hat];by_cases e1:s=i
   ·subst e1;rw [if_pos rfl,if_pos rfl,if_pos rfl,if_pos (by rw [lA];exact hi)];unfold tV;rw [if_neg (by simp),List.length_append,hq];rfl
   ·rw [if_neg e1,if_neg (fun e=>e1 e.symm),if_neg (fun e=>e1 e.symm),BG hi];unfold tN;rw [if_neg (fun e=>e1 e.symm)]
  ·injection hm with e1 e2;subst e1 e2;rw [II,hat];rw [hat] at h7;by_cases e1:s'=s
   ·rw [if_pos e1,if_pos e1];exact⟨by omega,_,h2,AN⟩
   ·rw [if_neg e1,if_neg e1];rw [if_neg e1] at h7;have hs':s'<ls.length:=by
     refine Decidable.byContradiction fun hc=>h7 ?_;unfold bK;rw [List.getD_eq_getElem?_getD,List.getElem?_eq_none (by omega)];rfl
    exact⟨by omega,_,ht s' hs' e1 h7,AN⟩
  ·injection hm with e1 e2;subst e1 e2;rw [hl] at h1;rw [BP,hat];rw [hat] at h4;by_cases e1:i=s
   ·rw [if_pos e1,if_pos e1];exact⟨by omega,_,h2,AN⟩
   ·rw [if_neg e1,if_neg e1];rw [if_neg e1] at h4;exact⟨by omega,_,ht i h1 e1 h4,AN⟩
 ·have hc:∀ {k' o},look (fW l m c1 c2 n k D s' ls') k'=some o→k'<7∨(k'=7∧(s'≠s→s'<ls.length))∨∃ i,i<ls.length∧i≠s'∧k'=i+1000:=by
   intro k' o hk;rcases uF (aZ hk) with hm|hm|⟨h7,hm⟩|⟨i,h1,h3,h4,hm⟩
   ·exact .inl (xI hρ (N:=2000) (by omega) _ hm).1
   ·injection hm with e1 e2;exact .inl (by omega)
   ·injection hm with e1 e2;refine .inr (.inl ⟨e1,fun e2=>Decidable.byContradiction fun hc=>h7 ?_⟩);rw [hat,if_neg e2];unfold bK;rw [List.getD_eq_getElem?_getD,List.getElem?_eq_none (by omega)];rfl
   ·injection hm with e1 e2;exact .inr (.inr ⟨i,by omega,h3,e1⟩)
  intro k1 k2 o1 o2 hk1 hk2 heq;rcases hc hk1 with a1|⟨a1,a2⟩|⟨i1,a1,a2,a3⟩ <;> rcases hc hk2 with b1|⟨b1,b2⟩|⟨i2,b1,b2,b3⟩
  ·rw [hρ _ a1,hρ _ b1] at heq;exact heq
  ·rw [hρ _ a1,b1,II] at heq;split at heq <;> omega
  ·rw [hρ _ a1,b3,BP] at heq;split at heq <;> omega
  ·rw [hρ _ b1,a1,II] at heq;split at heq <;> omega
  ·omega
  ·rw [a1,b3,II,BP] at heq;split at heq <;> split at heq <;> omega
  ·rw [hρ _ b1,a3,BP] at heq;split at heq <;> omega
  ·rw [b1,a3,II,BP] at heq;split at heq <;> split at heq <;> omega
  ·rw [a3,b3,BP,BP] at heq;split at heq <;> split at heq <;> omega
end
theorem MB {A B:List Dt}{i:Nat}(h:i<A.length):bX (A++B) i=bX A i:=by
 unfold bX;rw [List.getD_eq_getElem?_getD,List.getD_eq_getElem?_getD,List.getElem?_append_left h]
theorem N4 {A B:List Dt}{i j:Nat}(h:i=A.length+j):bX (A++B) i=bX B j:=by
 unfold bX;rw [List.getD_eq_getElem?_getD,List.getD_eq_getElem?_getD,List.getElem?_append_right (by omega),show i - A.length=j by omega]
theorem E8 (l:List Pt)(m:List Ed):∀ {N i:Nat},i<N→bX (a9 l m N) (2*i)=dA l m i∧bX (a9 l m N) (2*i+1)=dB l m i
 |0,i,h=>by omega
 |N+1,i,h=>by
  have hl:=bP l m N;unfold a9;by_cases e:i=N
  ·subst e;rw [N4 (j:=0) (by omega),N4 (j:=1) (by omega)];exact⟨rfl,rfl⟩
  ·rw [MB (by omega),MB (by omega)];exact E8 l m (by omega)
theorem mM {l:List Pt}{m:List Ed}{N i:Nat}(h:i<2*N):(i % 2=0∧bX (a9 l m N) i=dA l m (i / 2))∨(i % 2=1∧bX (a9 l m N) i=dB l m (i / 2)):=by
 have:=E8 l m (N:=N) (i:=i / 2) (by omega);by_cases e:i % 2=0
 ·left;rw [show 2*(i / 2)=i by omega] at this;exact⟨e,this.1⟩
 ·right;rw [show 2*(i / 2)+1=i by omega] at this;exact⟨by omega,this.2⟩
theorem mC {l:List Pt}{m:List Ed}(hM:oE l m=true){i:Nat}(h:i<2*m.length):0≤(bX (a9 l m m.length) i).fr∧(bX (a9 l m m.length) i).fr<l.length∧0≤(bX (a9 l m m.length) i).tt∧(bX (a9 l m m.length) i).tt<l.length∧(bX (a9 l m m.length) i).no=i:=by
 have he:=rG hM (i:=i / 2) (by omega);rcases mM (l:=l) (m:=m) h with ⟨e,h1⟩|⟨e,h1⟩
 ·rw [h1];simp only [dA];omega
 ·rw [h1];simp only [dB];omega
theorem aAL {l:List Pt}{m:List Ed}{n:Int}(hok:cY l m n=true)(hM:oE l m=true):fJ (a9 l m m.length)=true:=by
 refine List.all_eq_true.2 fun d hd=>?_;obtain⟨i,hi,rfl⟩:=List.getElem_of_mem hd;rw [← oU hi];rw [bP] at hi;have he:=rG hM (i:=i / 2) (by omega);have pa:=qZ hok (i:=(cN m (i / 2)).a.toNat) (by omega);have pb:=qZ hok (i:=(cN m (i / 2)).b.toNat) (by omega);rcases mM (l:=l) (m:=m) hi with ⟨e,h1⟩|⟨e,h1⟩
 ·rw [h1];unfold wide;simp only [Bool.and_eq_true,decide_eq_true_eq];simp only [eL,dA,dQ];omega
 ·rw [h1];unfold wide;simp only [Bool.and_eq_true,decide_eq_true_eq];simp only [eL,dB,dQ];omega
def pT (nP:Nat)(D:List Dt):Nat→List (List Int)
 |0=>List.replicate nP []
 |j+1=>(pT nP D j).set (bX D j).fr.toNat (bK (pT nP D j) (bX D j).fr.toNat++[(bX D j).no])
theorem nO (nP:Nat)(D:List Dt):∀ j,(pT nP D j).length=nP
 |0=>List.length_replicate
 |j+1=>by unfold pT;rw [List.length_set];exact nO nP D j
theorem CQ (nP:Nat)(D:List Dt):∀ (j s:Nat),(∀ i,i<j→(bX D i).fr.toNat<nP)→(bK (pT nP D j) s).length≤j
 |0,s,_=>by
  show (bK (List.replicate nP []) s).length≤0;unfold bK;rw [List.getD_eq_getElem?_getD,List.getElem?_replicate];split <;> exact Nat.le_refl _
 |j+1,s,h=>by
  unfold pT;rw [tY _ (by rw [nO];exact h j (Nat.lt_succ_self j))];split
  ·rename_i e;have:=CQ nP D j (bX D j).fr.toNat fun i hi=>h i (by omega);rw [List.length_append,List.length_singleton];omega
  ·have:=CQ nP D j s fun i hi=>h i (by omega);omega
theorem bm1 {k:Nat}{X Y:Prop}(h:Y):(match (generalizing:=false) Nat.ble (k+1) k with|true=>X|false=>Y):=by
 cases hb:Nat.ble (k+1) k with
 |false=>exact h
 |true=>have:=Nat.le_of_ble_eq_true hb;omega
def sD (nP:Nat)(D:List Dt)(i:Nat):Nat:=if i<D.length then (bX D i).fr.toNat else nP
theorem CN {n i:Nat}:bK (List.replicate n []) i=[]:=by
 unfold bK;rw [List.getD_eq_getElem?_getD,List.getElem?_replicate];split <;> rfl
theorem aH4 {n s:Nat}:tC s (List.replicate n [])=List.replicate n aQ:=by
 apply List.ext_getElem?;intro i;by_cases hi:i<n
 ·rw [BG (by rw [List.length_replicate];exact hi),List.getElem?_replicate,if_pos hi,CN];rfl
 ·rw [List.getElem?_eq_none (by rw [lA,List.length_replicate];omega),List.getElem?_eq_none (by rw [List.length_replicate];omega)]
theorem UL (v:Value):∀ n,rep n [v]=List.replicate n v
 |0=>rfl
 |n+1=>by rw [List.replicate_succ,← UL v n];rfl
theorem aCF {l:List Pt}{m:List Ed}{c1 c2:Nat}{n:Int}{k:Nat}{D:List Dt}{s:Nat}:fW l m c1 c2 n k D s (List.replicate l.length [])=yQ l m c1 c2 n k D:=by
 unfold fW yQ;rw [aH4,CN,YP (fun i _=>by rw [CN];rfl),UL];rfl
def PH (D:List Dt)(s j:Nat):List Int:=((List.range j).filter fun i=>decide ((bX D i).fr.toNat=s)).map fun (i:Nat)=>(i:Int)
theorem DA {nP:Nat}{D:List Dt}:∀ (j:Nat),(∀ i,i<j→(bX D i).fr.toNat<nP∧(bX D i).no=i)→∀ s,bK (pT nP D j) s=PH D s j
 |0,_,s=>CN
 |j+1,h,s=>by
  have ih:=DA j fun i hi=>h i (by omega);have hj:=h j (Nat.lt_succ_self j);unfold pT;rw [tY _ (by rw [nO];exact hj.1),ih,ih];unfold PH;rw [List.range_succ,List.filter_append,List.map_append];by_cases e:s=(bX D j).fr.toNat
  ·rw [if_pos e,e,hj.2];congr 1;rw [List.filter_cons_of_pos (by simp)];rfl
  ·rw [if_neg e,List.filter_cons_of_neg (by simpa using fun h=>e h.symm)];simp
theorem JO {D:List Dt}{s j:Nat}{x:Int}(h:x∈PH D s j):∃ i,i<j∧x=i∧(bX D i).fr.toNat=s:=by
 unfold PH at h;obtain⟨i,hi,rfl⟩:=List.mem_map.1 h;obtain⟨h1,h2⟩:=List.mem_filter.1 hi;exact⟨i,List.mem_range.1 h1,rfl,by simpa using h2⟩
theorem QO {D:List Dt}{s j i:Nat}(h:i<j)(hs:(bX D i).fr.toNat=s):(i:Int)∈PH D s j :=
 List.mem_map.2 ⟨i,List.mem_filter.2 ⟨List.mem_range.2 h,by simpa using hs⟩,rfl⟩
theorem yX (k:List Bool)(x:Nat)(i:Nat)(h:cV (k.set x true) i=true):i=x∨cV k i=true:=by
 unfold cV at h ⊢;rw [List.getD_eq_getElem?_getD,List.getElem?_set] at h;by_cases e:x=i
 ·exact .inl e.symm
 ·rw [if_neg e,← List.getD_eq_getElem?_getD] at h;exact .inr h
theorem I3 (m:List Ed)(s:List Bool):∀ (i p:Nat),cV (mN m s i) p=true→cV s p=true∨∃ e,e<i∧(p=(cN m e).a.toNat∨p=(cN m e).b.toNat)
 |0,p,h=>.inl h
 |i+1,p,h=>by
  unfold mN at h;rcases yX _ _ _ h with e|h
  ·exact .inr ⟨i,Nat.lt_succ_self i,.inr e⟩
  ·rcases yX _ _ _ h with e|h
   ·exact .inr ⟨i,Nat.lt_succ_self i,.inl e⟩
   ·rcases I3 m s i p h with h|⟨e,h1,h2⟩
    ·exact .inl h
    ·exact .inr ⟨e,by omega,h2⟩
theorem S9 {l:List Pt}{m:List Ed}{n:Int}(hok:cY l m n=true){s:Nat}(hs:s<l.length):(PH (a9 l m m.length) s (2*m.length)).length≠0:=by
 simp only [cY,Bool.and_eq_true] at hok;have h1:=List.all_eq_true.1 hok.2.2.2;have h2:cV (mN m (List.replicate l.length false) m.length) s=true:=by
  rw [rC (by rw [x6,List.length_replicate];exact hs)];exact h1 _ (List.getElem_mem _)
 rcases I3 m _ m.length s h2 with h|⟨e,h3,h4⟩
 ·unfold cV at h;rw [List.getD_eq_getElem?_getD,List.getElem?_replicate] at h;split at h <;> cases h
 ·have hd:=E8 l m h3;rcases h4 with h4|h4
  ·have:=QO (D:=a9 l m m.length) (s:=s) (j:=2*m.length) (i:=2*e) (by omega) (by rw [hd.1,h4];rfl);intro h0;rw [List.eq_nil_of_length_eq_zero h0] at this;cases this
  ·have:=QO (D:=a9 l m m.length) (s:=s) (j:=2*m.length) (i:=2*e+1) (by omega) (by rw [hd.2,h4];rfl);intro h0;rw [List.eq_nil_of_length_eq_zero h0] at this;cases this
theorem EL (m:Nat):∀ (k:Nat) (L:List Int) (i j:Nat),(bT m k L i j).length=L.length
 |0,L,i,j=>rfl
 |k+1,L,i,j=>by
  unfold bT;split
  ·exact iM _ _ _ _
  ·split
   ·rw [EL m k,iM]
   ·rw [EL m k,iM]
theorem SP (L:List Int)(a:Nat):∀ t,(XI L a t).length=L.length
 |0=>rfl
 |t+1=>by unfold XI;rw [iH];exact SP L a t
theorem SY (L:List Int)(a:Nat):∀ t,(WL L a t).length=L.length
 |0=>rfl
 |t+1=>by unfold WL;rw [iH];exact SY L a t
theorem rD {c:Prop}[Decidable c]{a b:List Int}{n:Nat}(ha:a.length=n)(hb:b.length=n):(if c then a else b).length=n:=by
 split
 ·exact ha
 ·exact hb
theorem zH (D:List Dt):∀ (k:Nat) (L:List Int) (a m b:Nat),(aU D k L a m b).length=L.length
 |0,L,_,_,_=>rfl
 |k+1,L,a,m,b=>by
  unfold aU;refine rD (SP _ _ _) (rD (SY _ _ _) ?_);simp only;have h1:(if stM D L a m b<m∧m<(a+b) / 2+m - stM D L a m b then bT m (m - stM D L a m b+((a+b) / 2+m - stM D L a m b - m)) L (m - stM D L a m b) ((a+b) / 2+m - stM D L a m b - m) else L).length=L.length:=rD (EL _ _ _ _ _) rfl;have h2:(if a<stM D L a m b∧stM D L a m b<(a+b) / 2 then aU D k (if stM D L a m b<m∧m<(a+b) / 2+m - stM D L a m b then bT m (m - stM D L a m b+((a+b) / 2+m - stM D L a m b - m)) L (m - stM D L a m b) ((a+b) / 2+m - stM D L a m b - m) else L) a (stM D L a m b) ((a+b) / 2) else (if stM D L a m b<m∧m<(a+b) / 2+m - stM D L a m b then bT m (m - stM D L a m b+((a+b) / 2+m - stM D L a m b - m)) L (m - stM D L a m b) ((a+b) / 2+m - stM D L a m b - m) else L)).length=L.length:=rD ((zH D k _ _ _ _).trans h1) h1;exact rD ((zH D k _ _ _ _).trans h2) h2
theorem M4 (D:List Dt)(n:Nat):∀ (k:Nat) (L:List Int) (a:Nat),(pC D n k L a).1.length=L.length
 |0,L,a=>rfl
 |k+1,L,a=>by
  unfold pC;split
  ·rw [M4 D n k,tE]
  ·rfl
theorem NW (D:List Dt)(f n bs:Nat):∀ (k:Nat) (L:List Int) (a:Nat),(rV D f n bs k L a).1.length=L.length
 |0,L,a=>rfl
 |k+1,L,a=>by
  unfold rV;split
  ·rw [NW D f n bs k,zH]
  ·rfl
theorem ZG (D:List Dt)(f n bs:Nat)(r:List Int × Nat):(vW D f n bs r).length=r.1.length:=by
 unfold vW;exact rD (zH _ _ _ _ _ _) rfl
theorem O2 (D:List Dt)(f n:Nat):∀ (k:Nat) (L:List Int) (bs:Nat),(EC D f n k L bs).length=L.length
 |0,L,bs=>rfl
 |k+1,L,bs=>by
  unfold EC;refine rD ?_ rfl;rw [O2 D f n k,ZG,NW]
theorem NN (D:List Dt)(f:Nat)(L:List Int):(rW D f L).length=L.length:=by
 unfold rW;rw [O2,tE,M4]
def srN (D:List Dt)(ls:List (List Int)):Nat→List (List Int)
 |0=>ls
 |i+1=>(srN D ls i).set i (rW D 1000 (bK ls i))
theorem qW (D:List Dt)(ls:List (List Int)):∀ i,(srN D ls i).length=ls.length
 |0=>rfl
 |i+1=>by unfold srN;rw [List.length_set];exact qW D ls i
theorem RJ (D:List Dt)(ls:List (List Int)):∀ {i:Nat},i≤ls.length→∀ s,bK (srN D ls i) s=if s<i then rW D 1000 (bK ls s) else bK ls s
 |0,h,s=>by rw [if_neg (by omega)];rfl
 |i+1,h,s=>by
  have ih:=RJ D ls (i:=i) (by omega) s;unfold srN;rw [tY _ (by rw [qW];omega),ih];by_cases e:s=i
  ·rw [if_pos e,if_pos (by omega),e]
  ·rw [if_neg e];by_cases e2:s<i
   ·rw [if_pos e2,if_pos (by omega)]
   ·rw [if_neg e2,if_neg (by omega)]
theorem aAB {s:Nat}{ls ls':List (List Int)}(hl:ls'.length=ls.length)(h:∀ i,i<ls.length→(bK ls' i).length=(bK ls i).length):tC s ls'=tC s ls:=by
 unfold tC;rw [hl];refine List.map_congr_left fun i hi=>?_;unfold tV;rw [h i (List.mem_range.1 hi)]
theorem OX {l:List Pt}{m:List Ed}{c1 c2:Nat}{n:Int}{k:Nat}{D:List Dt}{s:Nat}{ls:List (List Int)}{e0 e:List (Nat × Value)}{h:Heap}{nx:Nat}{I:KS}(hn:ls.length≤1000)(hs:ls.length≤s)(hI:I e0 (fW l m c1 c2 n k D s ls) 2000)
  (he:∀ p∈e0,look e p.1=some (fV id p.2)∧wJ 2000 p.2) (hb:∀ p∈rO l m c1 c2 n k D,look h p.1=some p.2) (h5:look h 5=some (.cells true false 1 (tC s ls)))
  (ht:∀ i,i<ls.length→(bK ls i).length≠0→look h (i+1000)=some (ob (bK ls i))):qV 2 I e h nx:=by
 refine⟨e0,fW l m c1 c2 n k D s ls,2000,id,hI,fun t v hv=>he _ (aZ hv),fun k' o hk=>?_,fun k' k'' _ _ _ _ h=>h,fun _ _=>rfl,by omega⟩;rcases uF (aZ hk) with hm|hm|⟨h7,hm⟩|⟨i,h1,h3,h4,hm⟩
 ·obtain⟨a1,_,a2⟩:=xI (ρ:=id) (fun _ _=>rfl) (N:=2000) (by omega) _ hm;simp only at a1 a2;exact⟨by omega,o,hb _ hm,a2⟩
 ·injection hm with e1 e2;subst e1 e2;refine⟨by omega,.cells true false 1 (tC s ls),h5,rfl,rfl,rfl,F5 (lA _ _) fun i hi=>BG hi,HY (by omega) (by omega)⟩
 ·exfalso;refine h7 ?_;unfold bK;rw [List.getD_eq_getElem?_getD,List.getElem?_eq_none hs];rfl
 ·injection hm with e1 e2;subst e1 e2;exact⟨by omega,_,ht i h1 h4,AN⟩
def WK (l:List Pt)(m:List Ed)(c1 c2:Nat)(n:Int)(k:Nat)(D:List Dt)(ls:List (List Int)):Heap :=
 (4,.cells true false 1 (qD l.length m.length c1 c2 n (.slice (some ⟨6,0,none⟩) k k) (.slice (some ⟨5,0,none⟩) l.length l.length) aQ))::(6,.cells true false 5 (flat rN.fl D))::(5,.cells true false 1 (tC ls.length ls)) ::
 (0,.cells false true aP.sz (flat aP.fl l))::(1,.cells false true aR.sz (flat aR.fl m))::tH ls.length ls ls.length
theorem Y5 {l:List Pt}{m:List Ed}{c1 c2:Nat}{n:Int}{k:Nat}{D:List Dt}{s:Nat}{ls:List (List Int)}{h:Heap}{nx:Nat}(hn:ls.length≤1000)(hs:ls.length=s)(hh:h=fW l m c1 c2 n k D s ls):K2 (.pointer (some ⟨4,0,none⟩)) (WK l m c1 c2 n k D ls) 2000 (.pointer (some ⟨4,0,none⟩)) h nx:=by
 subst hs hh;have hsub:∀ p,p∈WK l m c1 c2 n k D ls→p∈fW l m c1 c2 n k D ls.length ls:=by
  intro p hp;unfold WK at hp;unfold fW;simp only [List.mem_cons,List.mem_append] at hp ⊢;rcases hp with hp|hp|hp|hp|hp|hp
  ·exact .inr (.inr (.inr (.inl hp)))
  ·exact .inl hp
  ·exact .inr (.inl hp)
  ·exact .inr (.inr (.inr (.inr (.inr (.inl hp)))))
  ·exact .inr (.inr (.inr (.inr (.inr (.inr (.inl hp))))))
  ·exact .inr (.inr (.inr (.inr (.inr (.inr (.inr (.inr hp)))))))
 have h5:look (fW l m c1 c2 n k D ls.length ls) 5=some (.cells true false 1 (tC ls.length ls)):=rfl;have hb:∀ p∈rO l m c1 c2 n k D,look (fW l m c1 c2 n k D ls.length ls) p.1=some p.2:=by
  unfold rO;exact List.forall_mem_cons.2 ⟨rfl,List.forall_mem_cons.2 ⟨rfl,List.forall_mem_cons.2 ⟨rfl,List.forall_mem_cons.2 ⟨rfl,List.forall_mem_cons.2 ⟨rfl,List.forall_mem_cons.2 ⟨rfl,fun _ h=>(by cases h)⟩⟩⟩⟩⟩⟩
 have h7:(bK ls ls.length).length=0:=by
  unfold bK;rw [List.getD_eq_getElem?_getD,List.getElem?_eq_none (Nat.le_refl _)];rfl
 refine⟨id,fun t v hv=>?_,fun k' o hk=>?_,fun k' k'' _ _ _ _ h=>h,fun _ _=>rfl,by omega⟩
 ·have hm:=aZ hv;simp only [List.mem_cons,List.not_mem_nil,or_false] at hm;injection hm with e1 e2;subst e1 e2;exact⟨rfl,Nat.le_of_ble_eq_true rfl,rfl⟩
 ·rcases uF (hsub _ (aZ hk)) with hm|hm|⟨h8,hm⟩|⟨i,h1,h3,h4,hm⟩
  ·obtain⟨a1,_,a2⟩:=xI (ρ:=id) (fun _ _=>rfl) (N:=2000) (by omega) _ hm;simp only at a1 a2;exact⟨by omega,o,hb _ hm,a2⟩
  ·injection hm with e1 e2;subst e1 e2;refine⟨by omega,.cells true false 1 (tC ls.length ls),h5,rfl,rfl,rfl,F5 (lA _ _) fun i hi=>BG hi,HY (by omega) (by omega)⟩
  ·exact absurd h7 h8
  ·injection hm with e1 e2;subst e1 e2;refine⟨by omega,_,?_,AN⟩;unfold fW
   repeat rw [bB (by omega)]
   rw [show WX (bK ls ls.length)=[] from if_pos h7];exact kD h3 h4 h1
theorem lG {ls:List (List Int)}{s:Nat}(h:ls.length≤s):WX (bK ls s)=[]:=by
 unfold bK;rw [List.getD_eq_getElem?_getD,List.getElem?_eq_none h];rfl
def outs (l:List Pt)(m:List Ed):List (List Int):=srN (a9 l m m.length) (pT l.length (a9 l m m.length) (2*m.length)) l.length
theorem eY (l:List Pt)(m:List Ed):(outs l m).length=l.length:=by unfold outs;rw [qW,nO]
theorem KU (s:Nat)(ls:List (List Int)):∀ n,XT (tH s ls n)
 |0=>fun j o hj=>by cases hj
 |n+1=>by
  unfold tH;split
  ·exact KU s ls n
  ·exact aT (KU s ls n)
theorem aDY {n:Nat}{D:List Dt}{l:List Int}{c:Nat}(h1:l.length≤n)(h2:l.length≤1000000)(h3:eT D l=true)(h4:fJ D=true):GW n D l [] c=some (true,rW D n l):=by
 unfold GW;simp only [h1,h2,h3,h4,decide_true,Bool.and_self]
end Go.Aw
end
