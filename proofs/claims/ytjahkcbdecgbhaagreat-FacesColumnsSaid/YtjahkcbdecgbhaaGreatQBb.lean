/-
  Parts of a proof. No condition.
-/
import Derived.Test.YtjahkcbdecgbhaaGreatQBa
set_option linter.unusedSimpArgs false
set_option linter.unusedVariables false
noncomputable section
namespace Go.Aw
set_option maxRecDepth 100000
set_option maxHeartbeats 4000000
def dA (l:List Pt)(m:List Ed)(i:Nat):Dt:=⟨(dS l (cC m i).b).1 - (dS l (cC m i).a).1,(dS l (cC m i).b).2 - (dS l (cC m i).a).2,2*i,(cC m i).a,(cC m i).b⟩
def dB (l:List Pt)(m:List Ed)(i:Nat):Dt:=⟨(dS l (cC m i).a).1 - (dS l (cC m i).b).1,(dS l (cC m i).a).2 - (dS l (cC m i).b).2,2*i+1,(cC m i).b,(cC m i).a⟩
def bC (l:List Pt)(m:List Ed):Nat→List Dt
 |0=>[]
 |i+1=>bC l m i++[dA l m i,dB l m i]
theorem bR (l:List Pt)(m:List Ed):∀ i,(bC l m i).length=2*i
 |0=>rfl
 |i+1=>by rw [bC,List.length_append,bR];rfl
def yM (m:List Ed)(c2:Nat)(j:Int):List (Nat × Value):=[(1,.pointer (some ⟨2,0,none⟩)),(3,.pointer (some ⟨3,0,none⟩)),(20,.slice (some ⟨1,0,none⟩) m.length c2),(21,iv m.length),(22,iv j)]
def xW (l:List Pt)(m:List Ed)(c1 c2:Nat)(n:Int)(k:Nat)(D:List Dt):Heap :=
 (6,.cells true false 5 (flat rK.fl D))::(5,.cells true false 1 (rep l.length [aP]))::(3,.cells true false 1 [.pointer (some ⟨4,0,none⟩)])::(4,.cells true false 1 (pQ l.length m.length c1 c2 n (.slice (some ⟨6,0,none⟩) k k) (.slice (some ⟨5,0,none⟩) l.length l.length) aP)) ::
 (2,aX l.length m.length c1 c2 n)::aB aQ aU l m
theorem bm2 {k:Nat}{X Y:Prop}(h:Y):(match (generalizing:=false) Nat.ble (k+2) k with|true=>X|false=>Y):=by
 cases hb:Nat.ble (k+2) k with
 |false=>exact h
 |true=>have:=Nat.le_of_ble_eq_true hb;omega
theorem aD7 {i N s:Nat}{p:Prop}(hN:N=i*s)(hi:i+2≤1000000000)
  (h:aA.A.andB (aA.A.andB ((i+2).ble 1000000000) ((0+i*s).ble N)) (aA.A.andB ((0+i*s).beq N) (Nat.beq s s))=false):p:=by
 exfalso;have h1:(i+2).ble 1000000000=true:=Nat.ble_eq_true_of_le hi;have h2:(0+i*s).ble N=true:=Nat.ble_eq_true_of_le (by omega);have h3:(0+i*s).beq N=true:=(by rw [hN,Nat.zero_add];exact Nat.beq_refl _);rw [h1,h2,h3,Nat.beq_refl] at h;cases h
theorem SB {α:Type}(E:El α)(o:List α)(x y:α){n:Nat}(hn:n=o.length):((flat E.fl o).drop 0).take (n*E.sz)++(E.fl x++E.fl y)=flat E.fl (o++[x,y]):=by
 subst hn;rw [List.drop_zero,← bE E o,List.take_length,s8];simp [flat]
theorem oT {l:List Pt}{m:List Ed}{n:Int}(h:cX l m n=true){i:Nat}(hi:i<l.length):0≤(fT l i).1∧(fT l i).1≤10000∧0≤(fT l i).2∧(fT l i).2≤10000:=by
 simp only [cX,Bool.and_eq_true] at h;have h1:=eV h.2.1 hi;simp only [B2,aZ,Bool.and_eq_true,decide_eq_true_eq] at h1;omega
theorem aGa:dW aH8:=KL (kM.cons (aAX 1000) .nil).look
end Go.Aw
end

noncomputable section
namespace Go.Aw
set_option maxRecDepth 100000
def bK (ls:List (List Int))(i:Nat):List Int:=ls.getD i []
theorem tT (ls:List (List Int)){s:Nat}(hs:s<ls.length)(x:List Int)(i:Nat):bK (ls.set s x) i=if i=s then x else bK ls i:=by
 unfold bK;rw [List.getD_eq_getElem?_getD,List.getD_eq_getElem?_getD,List.getElem?_set];by_cases h:s=i
 ·subst h;simp [hs]
 ·rw [if_neg h,if_neg (fun e=>h e.symm)]
def tN (s i:Nat):Nat:=if i=s then 7 else i+1000
def tV (q:Nat)(l:List Int):Value:=if l.length=0 then aP else .slice (some ⟨q,0,none⟩) l.length l.length
def tC (s:Nat)(ls:List (List Int)):List Value:=(List.range ls.length).map fun i=>tV (tN s i) (bK ls i)
theorem kW (s:Nat)(ls:List (List Int)):(tC s ls).length=ls.length:=by simp [tC]
theorem BJ {s:Nat}{ls:List (List Int)}{i:Nat}(hi:i<ls.length):(tC s ls)[i]? = some (tV (tN s i) (bK ls i)):=by
 unfold tC;rw [List.getElem?_map,List.getElem?_range hi];rfl
theorem GR {s:Nat}{ls:List (List Int)}{i o:Nat}(hi:i<ls.length)(ho:o=i*1):nth (tC s ls) o=some (tV (tN s i) (bK ls i)):=by
 rw [v7,ho,Nat.mul_one];exact BJ hi
theorem OF {cs:List Value}{i o:Nat}{v:Value}(ho:o=i)(hi:i<cs.length):dJ cs o [v]=cs.set i v:=by
 subst ho;apply List.ext_getElem?;intro j;rw [OT (by simp;omega),List.getElem?_set];by_cases e:o=j
 ·subst e;rw [if_pos ⟨Nat.le_refl _,by simp⟩,if_pos rfl,if_pos hi,Nat.sub_self];rfl
 ·rw [if_neg (by simp;omega),if_neg e]
def ob (L:List Int):aV:=.cells true false 1 (flat aO.fl L)
def tH (s:Nat)(ls:List (List Int)):Nat→Heap
 |0=>[]
 |n+1=>if n=s∨(bK ls n).length=0 then tH s ls n else (n+1000,ob (bK ls n))::tH s ls n
theorem AO {s:Nat}{ls:List (List Int)}:∀ {n:Nat} {p:Nat × aV},p∈tH s ls n→∃ i,i<n∧i≠s∧(bK ls i).length≠0∧p=(i+1000,ob (bK ls i))
 |0,p,h=>by cases h
 |n+1,p,h=>by
  unfold tH at h;split at h
  ·obtain⟨i,h1,h2⟩:=AO h;exact⟨i,by omega,h2⟩
  ·rename_i hc;rcases List.mem_cons.1 h with rfl|h
   ·exact⟨n,Nat.lt_succ_self n,fun e=>hc (.inl e),fun e=>hc (.inr e),rfl⟩
   ·obtain⟨i,h1,h2⟩:=AO h;exact⟨i,by omega,h2⟩
theorem bD {α:Type}{k n:Nat}{v:α}{r:List (Nat × α)}(h:k≠n):look ((k,v)::r) n=look r n:=by
 rw [aD];split
 ·rename_i hb;exact absurd (beq_true hb) h
 ·rfl
theorem kB {s:Nat}{ls:List (List Int)}{i:Nat}(h1:i≠s)(h2:(bK ls i).length≠0):∀ {n:Nat},i<n→look (tH s ls n) (i+1000)=some (ob (bK ls i))
 |0,h=>by omega
 |n+1,h=>by
  unfold tH;by_cases e:i=n
  ·subst e;rw [if_neg (by rintro (e|e);exact h1 e;exact h2 e),aD,Nat.beq_refl]
  ·split
   ·exact kB h1 h2 (by omega)
   ·rw [bD (by omega)];exact kB h1 h2 (by omega)
theorem aDu {s:Nat}{ls:List (List Int)}{k n:Nat}(h:k<1000∨1000+n≤k):look (tH s ls n) k=none:=by
 cases hl:look (tH s ls n) k with
 |none=>rfl
 |some o =>
  obtain⟨i,h1,_,_,h2⟩:=AO (a8 hl);injection h2 with h2 _;omega
theorem aAa {s:Nat}{ls:List (List Int)}:∀ {n:Nat},(∀ i,i<n→(bK ls i).length=0)→tH s ls n=[]
 |0,_=>rfl
 |n+1,h=>by
  unfold tH;rw [if_pos (.inr (h n (Nat.lt_succ_self n)))];exact aAa fun i hi=>h i (by omega)
def WG (L:List Int):Heap:=if L.length=0 then [] else [(7,ob L)]
def fV (l:List Pt)(m:List Ed)(c1 c2:Nat)(n:Int)(k:Nat)(D:List Dt)(s:Nat)(ls:List (List Int)):Heap :=
 (6,.cells true false 5 (flat rK.fl D))::(5,.cells true false 1 (tC s ls))::(3,.cells true false 1 [.pointer (some ⟨4,0,none⟩)])::(4,.cells true false 1 (pQ l.length m.length c1 c2 n (.slice (some ⟨6,0,none⟩) k k) (.slice (some ⟨5,0,none⟩) l.length l.length) aP)) ::
 (2,aX l.length m.length c1 c2 n)::(0,.cells false true aQ.sz (flat aQ.fl l))::(1,.cells false true aU.sz (flat aU.fl m))::(WG (bK ls s)++tH s ls ls.length)
def oN (k:Nat)(j:Int):List (Nat × Value):=[(3,.pointer (some ⟨3,0,none⟩)),(89,.slice (some ⟨6,0,none⟩) k k),(90,iv k),(91,iv j)]
theorem aCu {ρ:Nat→Nat}{q a b:Nat}:bS ρ (.slice (some ⟨q,0,none⟩) a b)=.slice (some ⟨ρ q,0,none⟩) a b:=rfl
theorem D6 {ρ:Nat→Nat}{q:Nat}{L:List Int}:bS ρ (tV q L)=tV (ρ q) L:=by
 unfold tV;split
 ·rfl
 ·rfl
theorem aIr {q n:Nat}{L:List Int}(h:q<n):CR n (tV q L):=by
 unfold tV;split
 ·exact cG rfl
 ·exact⟨h,fun h=>by cases h⟩
theorem IJ {s n:Nat}{ls:List (List Int)}(h7:7<n)(hn:ls.length+1000≤n):∀ v∈tC s ls,CR n v:=by
 intro v hv;unfold tC at hv;obtain⟨i,hi,rfl⟩:=List.mem_map.1 hv;have:=List.mem_range.1 hi;refine aIr ?_;unfold tN;split <;> omega
def rh2 (s s':Nat):Nat→Nat:=rn [(7,if s'=s then 2002 else s'+1000),(s+1000,2002)]
theorem I9 (s s':Nat):rh2 s s' 7=if s'=s then 2002 else s'+1000:=rfl
theorem VO {s s' k:Nat}(h:k<7):rh2 s s' k=k:=by
 unfold rh2 rn;rw [bD (by omega),bD (by omega)];rfl
theorem BB {s s' i:Nat}:rh2 s s' (i+1000)=if i=s then 2002 else i+1000:=by
 unfold rh2 rn;rw [bD (by omega)];by_cases e:i=s
 ·rw [if_pos e,e,aD,Nat.beq_refl]
 ·rw [if_neg e,bD (by omega)];rfl
theorem aJ7 (s s' i:Nat)(hi:i=s'→s'≠s→i≠s):rh2 s s' (tN s' i)=if i=s then 2002 else i+1000:=by
 unfold tN;by_cases e:i=s'
 ·rw [if_pos e,I9];by_cases e2:s'=s
  ·rw [if_pos e2,if_pos (e.trans e2)]
  ·rw [if_neg e2,if_neg (hi e e2),e]
 ·rw [if_neg e,BB]
def Fx (v:Value):Prop:=(∃ q a b,q<7∧v=.slice (some ⟨q,0,none⟩) a b)∨(∃ q,q<7∧v=.pointer (some ⟨q,0,none⟩))∨gS v=true
theorem Fx.gP {ρ:Nat→Nat}(hρ:∀ k,k<7→ρ k=k){v:Value}(h:Fx v):bS ρ v=v:=by
 rcases h with ⟨q,a,b,hq,rfl⟩|⟨q,hq,rfl⟩|h
 ·rw [aCu,hρ q hq]
 ·show Value.pointer (some ⟨ρ q,0,none⟩)=_;rw [hρ q hq]
 ·exact lT h
theorem Fx.nm {v:Value}{n:Nat}(hn:7≤n)(h:Fx v):CR n v:=by
 rcases h with ⟨q,a,b,hq,rfl⟩|⟨q,hq,rfl⟩|h
 ·exact⟨Nat.lt_of_lt_of_le hq hn,fun h=>by cases h⟩
 ·exact⟨Nat.lt_of_lt_of_le hq hn,rfl⟩
 ·exact cG h
theorem I5 {ρ:Nat→Nat}(hρ:∀ k,k<7→ρ k=k){n:Nat}(hn:7≤n){wr g:Bool}{sz:Nat}{cs:List Value}(h:∀ v∈cs,Fx v):bX ρ n (.cells wr g sz cs) (.cells wr g sz cs):=by
 refine⟨rfl,rfl,rfl,?_,fun v hv=>(h v hv).nm hn⟩
 conv=>lhs;rw [← List.map_id cs]
 exact List.map_congr_left fun v hv=>((h v hv).gP hρ).symm
theorem LC {α:Type}(E:El α)(l:List α):∀ v∈flat E.fl l,Fx v:=fun v hv=>.inr (.inr (a9 (aF E l) hv))
theorem X3 {q a b:Nat}(h:q<7):Fx (.slice (some ⟨q,0,none⟩) a b):=.inl ⟨q,a,b,h,rfl⟩
theorem aKD {q:Nat}(h:q<7):Fx (.pointer (some ⟨q,0,none⟩)):=.inr (.inl ⟨q,h,rfl⟩)
theorem aGx {v:Value}(h:gS v=true):Fx v:=.inr (.inr h)
def rM (l:List Pt)(m:List Ed)(c1 c2:Nat)(n:Int)(k:Nat)(D:List Dt):Heap :=
 [(6,.cells true false 5 (flat rK.fl D)),(3,.cells true false 1 [.pointer (some ⟨4,0,none⟩)]),(4,.cells true false 1 (pQ l.length m.length c1 c2 n (.slice (some ⟨6,0,none⟩) k k) (.slice (some ⟨5,0,none⟩) l.length l.length) aP)),
 (2,aX l.length m.length c1 c2 n),(0,.cells false true aQ.sz (flat aQ.fl l)),(1,.cells false true aU.sz (flat aU.fl m))]
theorem y8 {ρ:Nat→Nat}(hρ:∀ k,k<7→ρ k=k){N:Nat}(hN:7≤N){l:List Pt}{m:List Ed}{c1 c2:Nat}{n:Int}{k:Nat}{D:List Dt}:∀ p∈rM l m c1 c2 n k D,p.1<7∧p.1≠5∧bX ρ N p.2 p.2:=by
 unfold rM;refine List.forall_mem_cons.2 ⟨⟨Nat.le_of_ble_eq_true rfl,Nat.ne_of_beq_eq_false rfl,I5 hρ hN (LC _ _)⟩,List.forall_mem_cons.2 ⟨⟨Nat.le_of_ble_eq_true rfl,Nat.ne_of_beq_eq_false rfl,I5 hρ hN ?_⟩,List.forall_mem_cons.2 ⟨⟨Nat.le_of_ble_eq_true rfl,Nat.ne_of_beq_eq_false rfl,I5 hρ hN ?_⟩,List.forall_mem_cons.2 ⟨⟨Nat.le_of_ble_eq_true rfl,Nat.ne_of_beq_eq_false rfl,I5 hρ hN ?_⟩,List.forall_mem_cons.2 ⟨⟨Nat.le_of_ble_eq_true rfl,Nat.ne_of_beq_eq_false rfl,I5 hρ hN (LC _ _)⟩,List.forall_mem_cons.2 ⟨⟨Nat.le_of_ble_eq_true rfl,Nat.ne_of_beq_eq_false rfl,I5 hρ hN (LC _ _)⟩,fun _ h=>(by cases h)⟩⟩⟩⟩⟩⟩
 ·exact List.forall_mem_cons.2 ⟨aKD (by decide),fun _ h=>(by cases h)⟩
 ·exact List.forall_mem_cons.2 ⟨X3 (by decide),List.forall_mem_cons.2 ⟨X3 (by decide),List.forall_mem_cons.2 ⟨aGx rfl,List.forall_mem_cons.2 ⟨X3 (by decide),List.forall_mem_cons.2 ⟨X3 (by decide),List.forall_mem_cons.2 ⟨aGx rfl,fun _ h=>(by cases h)⟩⟩⟩⟩⟩⟩
 ·exact List.forall_mem_cons.2 ⟨X3 (by decide),List.forall_mem_cons.2 ⟨X3 (by decide),List.forall_mem_cons.2 ⟨aGx rfl,fun _ h=>(by cases h)⟩⟩⟩
theorem tZ {l:List Pt}{m:List Ed}{c1 c2:Nat}{n:Int}{k:Nat}{D:List Dt}{s:Nat}{ls:List (List Int)}{p:Nat × aV}(h:p∈fV l m c1 c2 n k D s ls) :
  p∈rM l m c1 c2 n k D∨p=(5,.cells true false 1 (tC s ls))∨((bK ls s).length≠0∧p=(7,ob (bK ls s)))∨∃ i,i<ls.length∧i≠s∧(bK ls i).length≠0∧p=(i+1000,ob (bK ls i)):=by
 unfold fV at h;unfold rM;simp only [List.mem_cons,List.mem_append,List.not_mem_nil,or_false] at h ⊢;rcases h with h|h|h|h|h|h|h|h|h
 ·exact .inl (.inl h)
 ·exact .inr (.inl h)
 ·exact .inl (.inr (.inl h))
 ·exact .inl (.inr (.inr (.inl h)))
 ·exact .inl (.inr (.inr (.inr (.inl h))))
 ·exact .inl (.inr (.inr (.inr (.inr (.inl h)))))
 ·exact .inl (.inr (.inr (.inr (.inr (.inr h)))))
 ·unfold WG at h;split at h
  ·cases h
  ·rename_i hc;exact .inr (.inr (.inl ⟨hc,by simpa using h⟩))
 ·obtain⟨i,h1,h2,h3,h4⟩:=AO h;exact .inr (.inr (.inr ⟨i,h1,h2,h3,h4⟩))
theorem zZ {ρ:Nat→Nat}{n:Nat}{L:List Int}:bX ρ n (ob L) (ob L):=aN (aF _ _)
theorem GG {ρ:Nat→Nat}{s':Nat}{ls':List (List Int)}{cs:List Value}(hl:cs.length=ls'.length)(h:∀ i,i<ls'.length→cs[i]? = some (tV (ρ (tN s' i)) (bK ls' i))):cs=(tC s' ls').map (bS ρ):=by
 apply List.ext_getElem?;intro i;by_cases hi:i<ls'.length
 ·rw [h i hi,List.getElem?_map,BJ hi];simp only [Option.map_some,D6]
 ·rw [List.getElem?_eq_none (by omega),List.getElem?_eq_none (by rw [List.length_map,kW];omega)]
section
variable {l:List Pt}{m:List Ed}{c1 c2:Nat}{n:Int}{k:Nat}{D:List Dt}{s s' q:Nat}{ls:List (List Int)}{x j:Int}{e:List (Nat × Value)}{h:Heap}{nx:Nat}{I:KS}
theorem aBD {ρ:Nat→Nat}(hρ:∀ k,k<7→ρ k=k)(he:∀ p∈oN k j,look e p.1=some p.2):∀ t v,look (oN k j) t=some v→look e t=some (gP ρ v)∧xD 2000 v:=by
 intro t v hv;have hm:=a8 hv;have h1:=he _ hm;unfold oN at hm;simp only [List.mem_cons,List.not_mem_nil,or_false] at hm;rw [h1];rcases hm with hm|hm|hm|hm <;> (injection hm with _ hm;subst hm)
 ·exact⟨by show some (Value.pointer (some ⟨3,0,none⟩))=some (Value.pointer (some ⟨ρ 3,0,none⟩));rw [hρ 3 (by decide)],by decide,rfl⟩
 ·exact⟨by show some (Value.slice (some ⟨6,0,none⟩) k k)=some (Value.slice (some ⟨ρ 6,0,none⟩) k k);rw [hρ 6 (by decide)],by decide,fun h=>by cases h⟩
 ·exact⟨by rw [gP,iA rfl],dE rfl⟩
 ·exact⟨by rw [gP,iA rfl],dE rfl⟩
theorem aEP (hs:s<ls.length)(hn:ls.length≤1000)(hI:I (oN k j) (fV l m c1 c2 n k D s' (ls.set s (bK ls s++[x]))) 2000)(he:∀ p∈oN k j,look e p.1=some p.2)
  (hb:∀ p∈rM l m c1 c2 n k D,look h p.1=some p.2) (hq:q=(bK ls s).length+1) (h5:look h 5=some (.cells true false 1 ((tC s ls).set s (.slice (some ⟨2002,0,none⟩) q q))))
  (h2:look h 2002=some (ob (bK ls s++[x]))) (ht:∀ i,i<ls.length→i≠s→(bK ls i).length≠0→look h (i+1000)=some (ob (bK ls i))):qU 2 I e h nx:=by
 have hat:∀ i,bK (ls.set s (bK ls s++[x])) i=if i=s then bK ls s++[x] else bK ls i:=tT ls hs _
 have hl:(ls.set s (bK ls s++[x])).length=ls.length:=List.length_set;have hρ:∀ k,k<7→rh2 s s' k=k:=fun k hk=>VO hk;generalize ls.set s (bK ls s++[x])=ls' at hI hat hl;refine⟨oN k j,fV l m c1 c2 n k D s' ls',2000,rh2 s s',hI,aBD hρ he,?_,?_,fun k hk=>VO (by omega),by omega⟩
 ·intro k' o hk;rcases tZ (a8 hk) with hm|hm|⟨h7,hm⟩|⟨i,h1,h3,h4,hm⟩
  ·obtain⟨a1,_,a2⟩:=y8 hρ (N:=2000) (by omega) _ hm;simp only at a1 a2;exact⟨by omega,o,by rw [hρ k' a1];exact hb _ hm,a2⟩
  ·injection hm with e1 e2;subst e1 e2;refine⟨by omega,.cells true false 1 ((tC s ls).set s (.slice (some ⟨2002,0,none⟩) q q)),by rw [hρ 5 (by omega)];exact h5,rfl,rfl,rfl,GG (by rw [List.length_set,kW,hl]) fun i hi=>?_,IJ (by omega) (by omega)⟩;rw [hl] at hi;rw [aJ7 s s' i (fun e1 e2 e3=>e2 (e1.symm.trans e3)),List.getElem?_set,hat];by_cases e1:s=i
   ·subst e1;rw [if_pos rfl,if_pos rfl,if_pos rfl,if_pos (by rw [kW];exact hi)];unfold tV;rw [if_neg (by simp),List.length_append,hq];rfl
   ·rw [if_neg e1,if_neg (fun e=>e1 e.symm),if_neg (fun e=>e1 e.symm),BJ hi];unfold tN;rw [if_neg (fun e=>e1 e.symm)]
  ·injection hm with e1 e2;subst e1 e2;rw [I9,hat];rw [hat] at h7;by_cases e1:s'=s
   ·rw [if_pos e1,if_pos e1];exact⟨by omega,_,h2,zZ⟩
   ·rw [if_neg e1,if_neg e1];rw [if_neg e1] at h7;have hs':s'<ls.length:=by
     refine Decidable.byContradiction fun hc=>h7 ?_;unfold bK;rw [List.getD_eq_getElem?_getD,List.getElem?_eq_none (by omega)];rfl
    exact⟨by omega,_,ht s' hs' e1 h7,zZ⟩
  ·injection hm with e1 e2;subst e1 e2;rw [hl] at h1;rw [BB,hat];rw [hat] at h4;by_cases e1:i=s
   ·rw [if_pos e1,if_pos e1];exact⟨by omega,_,h2,zZ⟩
   ·rw [if_neg e1,if_neg e1];rw [if_neg e1] at h4;exact⟨by omega,_,ht i h1 e1 h4,zZ⟩
 ·have hc:∀ {k' o},look (fV l m c1 c2 n k D s' ls') k'=some o→k'<7∨(k'=7∧(s'≠s→s'<ls.length))∨∃ i,i<ls.length∧i≠s'∧k'=i+1000:=by
   intro k' o hk;rcases tZ (a8 hk) with hm|hm|⟨h7,hm⟩|⟨i,h1,h3,h4,hm⟩
   ·exact .inl (y8 hρ (N:=2000) (by omega) _ hm).1
   ·injection hm with e1 e2;exact .inl (by omega)
   ·injection hm with e1 e2;refine .inr (.inl ⟨e1,fun e2=>Decidable.byContradiction fun hc=>h7 ?_⟩);rw [hat,if_neg e2];unfold bK;rw [List.getD_eq_getElem?_getD,List.getElem?_eq_none (by omega)];rfl
   ·injection hm with e1 e2;exact .inr (.inr ⟨i,by omega,h3,e1⟩)
  intro k1 k2 o1 o2 hk1 hk2 heq;rcases hc hk1 with a1|⟨a1,a2⟩|⟨i1,a1,a2,a3⟩ <;> rcases hc hk2 with b1|⟨b1,b2⟩|⟨i2,b1,b2,b3⟩
  ·rw [hρ _ a1,hρ _ b1] at heq;exact heq
  ·rw [hρ _ a1,b1,I9] at heq;split at heq <;> omega
  ·rw [hρ _ a1,b3,BB] at heq;split at heq <;> omega
  ·rw [hρ _ b1,a1,I9] at heq;split at heq <;> omega
  ·omega
  ·rw [a1,b3,I9,BB] at heq;split at heq <;> split at heq <;> omega
  ·rw [hρ _ b1,a3,BB] at heq;split at heq <;> omega
  ·rw [b1,a3,I9,BB] at heq;split at heq <;> split at heq <;> omega
  ·rw [a3,b3,BB,BB] at heq;split at heq <;> split at heq <;> omega
end
theorem M7 {A B:List Dt}{i:Nat}(h:i<A.length):cA (A++B) i=cA A i:=by
 unfold cA;rw [List.getD_eq_getElem?_getD,List.getD_eq_getElem?_getD,List.getElem?_append_left h]
theorem MO {A B:List Dt}{i j:Nat}(h:i=A.length+j):cA (A++B) i=cA B j:=by
 unfold cA;rw [List.getD_eq_getElem?_getD,List.getD_eq_getElem?_getD,List.getElem?_append_right (by omega),show i - A.length=j by omega]
theorem FN (l:List Pt)(m:List Ed):∀ {N i:Nat},i<N→cA (bC l m N) (2*i)=dA l m i∧cA (bC l m N) (2*i+1)=dB l m i
 |0,i,h=>by omega
 |N+1,i,h=>by
  have hl:=bR l m N;unfold bC;by_cases e:i=N
  ·subst e;rw [MO (j:=0) (by omega),MO (j:=1) (by omega)];exact⟨rfl,rfl⟩
  ·rw [M7 (by omega),M7 (by omega)];exact FN l m (by omega)
theorem mO {l:List Pt}{m:List Ed}{N i:Nat}(h:i<2*N):(i % 2=0∧cA (bC l m N) i=dA l m (i / 2))∨(i % 2=1∧cA (bC l m N) i=dB l m (i / 2)):=by
 have:=FN l m (N:=N) (i:=i / 2) (by omega);by_cases e:i % 2=0
 ·left;rw [show 2*(i / 2)=i by omega] at this;exact⟨e,this.1⟩
 ·right;rw [show 2*(i / 2)+1=i by omega] at this;exact⟨by omega,this.2⟩
theorem l9 {l:List Pt}{m:List Ed}(hM:kK l m=true){i:Nat}(h:i<2*m.length):0≤(cA (bC l m m.length) i).fr∧(cA (bC l m m.length) i).fr<l.length∧0≤(cA (bC l m m.length) i).tt∧(cA (bC l m m.length) i).tt<l.length∧(cA (bC l m m.length) i).no=i:=by
 have he:=nB hM (i:=i / 2) (by omega);rcases mO (l:=l) (m:=m) h with ⟨e,h1⟩|⟨e,h1⟩
 ·rw [h1];simp only [dA];omega
 ·rw [h1];simp only [dB];omega
theorem aBV {l:List Pt}{m:List Ed}{n:Int}(hok:cX l m n=true)(hM:kK l m=true):aBQ (bC l m m.length)=true:=by
 refine List.all_eq_true.2 fun d hd=>?_;obtain⟨i,hi,rfl⟩:=List.getElem_of_mem hd;rw [← pC hi];rw [bR] at hi;have he:=nB hM (i:=i / 2) (by omega);have pa:=oT hok (i:=(cC m (i / 2)).a.toNat) (by omega);have pb:=oT hok (i:=(cC m (i / 2)).b.toNat) (by omega);rcases mO (l:=l) (m:=m) hi with ⟨e,h1⟩|⟨e,h1⟩
 ·rw [h1];unfold wide;simp only [Bool.and_eq_true,decide_eq_true_eq];simp only [eO,dA,dS];omega
 ·rw [h1];unfold wide;simp only [Bool.and_eq_true,decide_eq_true_eq];simp only [eO,dB,dS];omega
def qA (nP:Nat)(D:List Dt):Nat→List (List Int)
 |0=>List.replicate nP []
 |j+1=>(qA nP D j).set (cA D j).fr.toNat (bK (qA nP D j) (cA D j).fr.toNat++[(cA D j).no])
theorem nQ (nP:Nat)(D:List Dt):∀ j,(qA nP D j).length=nP
 |0=>List.length_replicate
 |j+1=>by unfold qA;rw [List.length_set];exact nQ nP D j
theorem CZ (nP:Nat)(D:List Dt):∀ (j s:Nat),(∀ i,i<j→(cA D i).fr.toNat<nP)→(bK (qA nP D j) s).length≤j
 |0,s,_=>by
  show (bK (List.replicate nP []) s).length≤0;unfold bK;rw [List.getD_eq_getElem?_getD,List.getElem?_replicate];split <;> exact Nat.le_refl _
 |j+1,s,h=>by
  unfold qA;rw [tT _ (by rw [nQ];exact h j (Nat.lt_succ_self j))];split
  ·rename_i e;have:=CZ nP D j (cA D j).fr.toNat fun i hi=>h i (by omega);rw [List.length_append,List.length_singleton];omega
  ·have:=CZ nP D j s fun i hi=>h i (by omega);omega
theorem bm1 {k:Nat}{X Y:Prop}(h:Y):(match (generalizing:=false) Nat.ble (k+1) k with|true=>X|false=>Y):=by
 cases hb:Nat.ble (k+1) k with
 |false=>exact h
 |true=>have:=Nat.le_of_ble_eq_true hb;omega
def sD (nP:Nat)(D:List Dt)(i:Nat):Nat:=if i<D.length then (cA D i).fr.toNat else nP
theorem DE {n i:Nat}:bK (List.replicate n []) i=[]:=by
 unfold bK;rw [List.getD_eq_getElem?_getD,List.getElem?_replicate];split <;> rfl
theorem aGw {n s:Nat}:tC s (List.replicate n [])=List.replicate n aP:=by
 apply List.ext_getElem?;intro i;by_cases hi:i<n
 ·rw [BJ (by rw [List.length_replicate];exact hi),List.getElem?_replicate,if_pos hi,DE];rfl
 ·rw [List.getElem?_eq_none (by rw [kW,List.length_replicate];omega),List.getElem?_eq_none (by rw [List.length_replicate];omega)]
theorem U4 (v:Value):∀ n,rep n [v]=List.replicate n v
 |0=>rfl
 |n+1=>by rw [List.replicate_succ,← U4 v n];rfl
theorem aCf {l:List Pt}{m:List Ed}{c1 c2:Nat}{n:Int}{k:Nat}{D:List Dt}{s:Nat}:fV l m c1 c2 n k D s (List.replicate l.length [])=xW l m c1 c2 n k D:=by
 unfold fV xW;rw [aGw,DE,aAa (fun i _=>by rw [DE];rfl),U4];rfl
def QL (D:List Dt)(s j:Nat):List Int:=((List.range j).filter fun i=>decide ((cA D i).fr.toNat=s)).map fun (i:Nat)=>(i:Int)
theorem C2 {nP:Nat}{D:List Dt}:∀ (j:Nat),(∀ i,i<j→(cA D i).fr.toNat<nP∧(cA D i).no=i)→∀ s,bK (qA nP D j) s=QL D s j
 |0,_,s=>DE
 |j+1,h,s=>by
  have ih:=C2 j fun i hi=>h i (by omega);have hj:=h j (Nat.lt_succ_self j);unfold qA;rw [tT _ (by rw [nQ];exact hj.1),ih,ih];unfold QL;rw [List.range_succ,List.filter_append,List.map_append];by_cases e:s=(cA D j).fr.toNat
  ·rw [if_pos e,e,hj.2];congr 1;rw [List.filter_cons_of_pos (by simp)];rfl
  ·rw [if_neg e,List.filter_cons_of_neg (by simpa using fun h=>e h.symm)];simp
theorem KF {D:List Dt}{s j:Nat}{x:Int}(h:x∈QL D s j):∃ i,i<j∧x=i∧(cA D i).fr.toNat=s:=by
 unfold QL at h;obtain⟨i,hi,rfl⟩:=List.mem_map.1 h;obtain⟨h1,h2⟩:=List.mem_filter.1 hi;exact⟨i,List.mem_range.1 h1,rfl,by simpa using h2⟩
theorem QK {D:List Dt}{s j i:Nat}(h:i<j)(hs:(cA D i).fr.toNat=s):(i:Int)∈QL D s j :=
 List.mem_map.2 ⟨i,List.mem_filter.2 ⟨List.mem_range.2 h,by simpa using hs⟩,rfl⟩
theorem xM (k:List Bool)(x:Nat)(i:Nat)(h:cU (k.set x true) i=true):i=x∨cU k i=true:=by
 unfold cU at h ⊢;rw [List.getD_eq_getElem?_getD,List.getElem?_set] at h;by_cases e:x=i
 ·exact .inl e.symm
 ·rw [if_neg e,← List.getD_eq_getElem?_getD] at h;exact .inr h
theorem IH (m:List Ed)(s:List Bool):∀ (i p:Nat),cU (mH m s i) p=true→cU s p=true∨∃ e,e<i∧(p=(cC m e).a.toNat∨p=(cC m e).b.toNat)
 |0,p,h=>.inl h
 |i+1,p,h=>by
  unfold mH at h;rcases xM _ _ _ h with e|h
  ·exact .inr ⟨i,Nat.lt_succ_self i,.inr e⟩
  ·rcases xM _ _ _ h with e|h
   ·exact .inr ⟨i,Nat.lt_succ_self i,.inl e⟩
   ·rcases IH m s i p h with h|⟨e,h1,h2⟩
    ·exact .inl h
    ·exact .inr ⟨e,by omega,h2⟩
theorem TW {l:List Pt}{m:List Ed}{n:Int}(hok:cX l m n=true){s:Nat}(hs:s<l.length):(QL (bC l m m.length) s (2*m.length)).length≠0:=by
 simp only [cX,Bool.and_eq_true] at hok;have h1:=List.all_eq_true.1 hok.2.2.2;have h2:cU (mH m (List.replicate l.length false) m.length) s=true:=by
  rw [qL (by rw [xV,List.length_replicate];exact hs)];exact h1 _ (List.getElem_mem _)
 rcases IH m _ m.length s h2 with h|⟨e,h3,h4⟩
 ·unfold cU at h;rw [List.getD_eq_getElem?_getD,List.getElem?_replicate] at h;split at h <;> cases h
 ·have hd:=FN l m h3;rcases h4 with h4|h4
  ·have:=QK (D:=bC l m m.length) (s:=s) (j:=2*m.length) (i:=2*e) (by omega) (by rw [hd.1,h4];rfl);intro h0;rw [List.eq_nil_of_length_eq_zero h0] at this;cases this
  ·have:=QK (D:=bC l m m.length) (s:=s) (j:=2*m.length) (i:=2*e+1) (by omega) (by rw [hd.2,h4];rfl);intro h0;rw [List.eq_nil_of_length_eq_zero h0] at this;cases this
theorem FZ (m:Nat):∀ (k:Nat) (L:List Int) (i j:Nat),(bV m k L i j).length=L.length
 |0,L,i,j=>rfl
 |k+1,L,i,j=>by
  unfold bV;split
  ·exact iI _ _ _ _
  ·split
   ·rw [FZ m k,iI]
   ·rw [FZ m k,iI]
theorem TE (L:List Int)(a:Nat):∀ t,(WX L a t).length=L.length
 |0=>rfl
 |t+1=>by unfold WX;rw [iH];exact TE L a t
theorem UA (L:List Int)(a:Nat):∀ t,(WH L a t).length=L.length
 |0=>rfl
 |t+1=>by unfold WH;rw [iH];exact UA L a t
theorem rF {c:Prop}[Decidable c]{a b:List Int}{n:Nat}(ha:a.length=n)(hb:b.length=n):(if c then a else b).length=n:=by
 split
 ·exact ha
 ·exact hb
theorem zE (D:CW):∀ (k:Nat) (L:List Int) (a m b:Nat),(aT D k L a m b).length=L.length
 |0,L,_,_,_=>rfl
 |k+1,L,a,m,b=>by
  unfold aT;refine rF (TE _ _ _) (rF (UA _ _ _) ?_);simp only;have h1:(if stM D L a m b<m∧m<(a+b) / 2+m - stM D L a m b then bV m (m - stM D L a m b+((a+b) / 2+m - stM D L a m b - m)) L (m - stM D L a m b) ((a+b) / 2+m - stM D L a m b - m) else L).length=L.length:=rF (FZ _ _ _ _ _) rfl;have h2:(if a<stM D L a m b∧stM D L a m b<(a+b) / 2 then aT D k (if stM D L a m b<m∧m<(a+b) / 2+m - stM D L a m b then bV m (m - stM D L a m b+((a+b) / 2+m - stM D L a m b - m)) L (m - stM D L a m b) ((a+b) / 2+m - stM D L a m b - m) else L) a (stM D L a m b) ((a+b) / 2) else (if stM D L a m b<m∧m<(a+b) / 2+m - stM D L a m b then bV m (m - stM D L a m b+((a+b) / 2+m - stM D L a m b - m)) L (m - stM D L a m b) ((a+b) / 2+m - stM D L a m b - m) else L)).length=L.length:=rF ((zE D k _ _ _ _).trans h1) h1;exact rF ((zE D k _ _ _ _).trans h2) h2
theorem ON (D:CW)(n:Nat):∀ (k:Nat) (L:List Int) (a:Nat),(oY D n k L a).1.length=L.length
 |0,L,a=>rfl
 |k+1,L,a=>by
  unfold oY;split
  ·rw [ON D n k,tP]
  ·rfl
theorem OK (D:CW)(f n bs:Nat):∀ (k:Nat) (L:List Int) (a:Nat),(rQ D f n bs k L a).1.length=L.length
 |0,L,a=>rfl
 |k+1,L,a=>by
  unfold rQ;split
  ·rw [OK D f n bs k,zE]
  ·rfl
theorem aBz (D:CW)(f n bs:Nat)(r:List Int × Nat):(v5 D f n bs r).length=r.1.length:=by
 unfold v5;exact rF (zE _ _ _ _ _ _) rfl
theorem OP (D:CW)(f n:Nat):∀ (k:Nat) (L:List Int) (bs:Nat),(D4 D f n k L bs).length=L.length
 |0,L,bs=>rfl
 |k+1,L,bs=>by
  unfold D4;refine rF ?_ rfl;rw [OP D f n k,aBz,OK]
theorem qC (D:CW)(f:Nat)(L:List Int):(oC D f L).length=L.length:=by
 unfold oC;rw [OP,tP,ON]
def srN (D:List Dt)(ls:List (List Int)):Nat→List (List Int)
 |0=>ls
 |i+1=>(srN D ls i).set i (oC D 1000 (bK ls i))
theorem rH (D:List Dt)(ls:List (List Int)):∀ i,(srN D ls i).length=ls.length
 |0=>rfl
 |i+1=>by unfold srN;rw [List.length_set];exact rH D ls i
theorem Q4 (D:List Dt)(ls:List (List Int)):∀ {i:Nat},i≤ls.length→∀ s,bK (srN D ls i) s=if s<i then oC D 1000 (bK ls s) else bK ls s
 |0,h,s=>by rw [if_neg (by omega)];rfl
 |i+1,h,s=>by
  have ih:=Q4 D ls (i:=i) (by omega) s;unfold srN;rw [tT _ (by rw [rH];omega),ih];by_cases e:s=i
  ·rw [if_pos e,if_pos (by omega),e]
  ·rw [if_neg e];by_cases e2:s<i
   ·rw [if_pos e2,if_pos (by omega)]
   ·rw [if_neg e2,if_neg (by omega)]
theorem aA5 {s:Nat}{ls ls':List (List Int)}(hl:ls'.length=ls.length)(h:∀ i,i<ls.length→(bK ls' i).length=(bK ls i).length):tC s ls'=tC s ls:=by
 unfold tC;rw [hl];refine List.map_congr_left fun i hi=>?_;unfold tV;rw [h i (List.mem_range.1 hi)]
theorem OV {l:List Pt}{m:List Ed}{c1 c2:Nat}{n:Int}{k:Nat}{D:List Dt}{s:Nat}{ls:List (List Int)}{e0 e:List (Nat × Value)}{h:Heap}{nx:Nat}{I:KS}(hn:ls.length≤1000)(hs:ls.length≤s)(hI:I e0 (fV l m c1 c2 n k D s ls) 2000)
  (he:∀ p∈e0,look e p.1=some (gP id p.2)∧xD 2000 p.2) (hb:∀ p∈rM l m c1 c2 n k D,look h p.1=some p.2) (h5:look h 5=some (.cells true false 1 (tC s ls)))
  (ht:∀ i,i<ls.length→(bK ls i).length≠0→look h (i+1000)=some (ob (bK ls i))):qU 2 I e h nx:=by
 refine⟨e0,fV l m c1 c2 n k D s ls,2000,id,hI,fun t v hv=>he _ (a8 hv),fun k' o hk=>?_,fun k' k'' _ _ _ _ h=>h,fun _ _=>rfl,by omega⟩;rcases tZ (a8 hk) with hm|hm|⟨h7,hm⟩|⟨i,h1,h3,h4,hm⟩
 ·obtain⟨a1,_,a2⟩:=y8 (ρ:=id) (fun _ _=>rfl) (N:=2000) (by omega) _ hm;simp only at a1 a2;exact⟨by omega,o,hb _ hm,a2⟩
 ·injection hm with e1 e2;subst e1 e2;refine⟨by omega,.cells true false 1 (tC s ls),h5,rfl,rfl,rfl,GG (kW _ _) fun i hi=>BJ hi,IJ (by omega) (by omega)⟩
 ·exfalso;refine h7 ?_;unfold bK;rw [List.getD_eq_getElem?_getD,List.getElem?_eq_none hs];rfl
 ·injection hm with e1 e2;subst e1 e2;exact⟨by omega,_,ht i h1 h4,zZ⟩
def YB (l:List Pt)(m:List Ed)(c1 c2:Nat)(n:Int)(k:Nat)(D:List Dt)(ls:List (List Int)):Heap :=
 (4,.cells true false 1 (pQ l.length m.length c1 c2 n (.slice (some ⟨6,0,none⟩) k k) (.slice (some ⟨5,0,none⟩) l.length l.length) aP))::(6,.cells true false 5 (flat rK.fl D))::(5,.cells true false 1 (tC ls.length ls)) ::
 (0,.cells false true aQ.sz (flat aQ.fl l))::(1,.cells false true aU.sz (flat aU.fl m))::tH ls.length ls ls.length
theorem Y5 {l:List Pt}{m:List Ed}{c1 c2:Nat}{n:Int}{k:Nat}{D:List Dt}{s:Nat}{ls:List (List Int)}{h:Heap}{nx:Nat}(hn:ls.length≤1000)(hs:ls.length=s)(hh:h=fV l m c1 c2 n k D s ls):JR (.pointer (some ⟨4,0,none⟩)) (YB l m c1 c2 n k D ls) 2000 (.pointer (some ⟨4,0,none⟩)) h nx:=by
 subst hs hh;have hsub:∀ p,p∈YB l m c1 c2 n k D ls→p∈fV l m c1 c2 n k D ls.length ls:=by
  intro p hp;unfold YB at hp;unfold fV;simp only [List.mem_cons,List.mem_append] at hp ⊢;rcases hp with hp|hp|hp|hp|hp|hp
  ·exact .inr (.inr (.inr (.inl hp)))
  ·exact .inl hp
  ·exact .inr (.inl hp)
  ·exact .inr (.inr (.inr (.inr (.inr (.inl hp)))))
  ·exact .inr (.inr (.inr (.inr (.inr (.inr (.inl hp))))))
  ·exact .inr (.inr (.inr (.inr (.inr (.inr (.inr (.inr hp)))))))
 have h5:look (fV l m c1 c2 n k D ls.length ls) 5=some (.cells true false 1 (tC ls.length ls)):=rfl;have hb:∀ p∈rM l m c1 c2 n k D,look (fV l m c1 c2 n k D ls.length ls) p.1=some p.2:=by
  unfold rM;exact List.forall_mem_cons.2 ⟨rfl,List.forall_mem_cons.2 ⟨rfl,List.forall_mem_cons.2 ⟨rfl,List.forall_mem_cons.2 ⟨rfl,List.forall_mem_cons.2 ⟨rfl,List.forall_mem_cons.2 ⟨rfl,fun _ h=>(by cases h)⟩⟩⟩⟩⟩⟩
 have h7:(bK ls ls.length).length=0:=by
  unfold bK;rw [List.getD_eq_getElem?_getD,List.getElem?_eq_none (Nat.le_refl _)];rfl
 refine⟨id,fun t v hv=>?_,fun k' o hk=>?_,fun k' k'' _ _ _ _ h=>h,fun _ _=>rfl,by omega⟩
 ·have hm:=a8 hv;simp only [List.mem_cons,List.not_mem_nil,or_false] at hm;injection hm with e1 e2;subst e1 e2;exact⟨rfl,Nat.le_of_ble_eq_true rfl,rfl⟩
 ·rcases tZ (hsub _ (a8 hk)) with hm|hm|⟨h8,hm⟩|⟨i,h1,h3,h4,hm⟩
  ·obtain⟨a1,_,a2⟩:=y8 (ρ:=id) (fun _ _=>rfl) (N:=2000) (by omega) _ hm;simp only at a1 a2;exact⟨by omega,o,hb _ hm,a2⟩
  ·injection hm with e1 e2;subst e1 e2;refine⟨by omega,.cells true false 1 (tC ls.length ls),h5,rfl,rfl,rfl,GG (kW _ _) fun i hi=>BJ hi,IJ (by omega) (by omega)⟩
  ·exact absurd h7 h8
  ·injection hm with e1 e2;subst e1 e2;refine⟨by omega,_,?_,zZ⟩;unfold fV
   repeat rw [bD (by omega)]
   rw [show WG (bK ls ls.length)=[] from if_pos h7];exact kB h3 h4 h1
theorem lB {ls:List (List Int)}{s:Nat}(h:ls.length≤s):WG (bK ls s)=[]:=by
 unfold bK;rw [List.getD_eq_getElem?_getD,List.getElem?_eq_none h];rfl
def outs (l:List Pt)(m:List Ed):List (List Int):=srN (bC l m m.length) (qA l.length (bC l m m.length) (2*m.length)) l.length
theorem fK (l:List Pt)(m:List Ed):(outs l m).length=l.length:=by unfold outs;rw [rH,nQ]
theorem KO (s:Nat)(ls:List (List Int)):∀ n,Q8 (tH s ls n)
 |0=>fun j o hj=>by cases hj
 |n+1=>by
  unfold tH;split
  ·exact KO s ls n
  ·exact aS (KO s ls n)
theorem aDU {n:Nat}{D:List Dt}{l:List Int}{c:Nat}(h1:l.length≤n)(h2:l.length≤1000000)(h3:YL D l=true)(h4:aBQ D=true):GP n D l [] c=some (true,oC D n l):=by
 have h3:fR (.dirs D) l=true:=h3;have h4:fH (.dirs D)=true:=h4;unfold GP;simp only [h1,h2,h3,h4,decide_true,Bool.and_self]
end Go.Aw
end
