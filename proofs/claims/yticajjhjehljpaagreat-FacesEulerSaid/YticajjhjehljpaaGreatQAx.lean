/-
  Parts of a proof. No condition.
-/
import Derived.Test.YticajjhjehljpaaGreatQAw
set_option linter.unusedSimpArgs false
set_option linter.unusedVariables false
noncomputable section
namespace Go.Aw
set_option maxRecDepth 100000
set_option maxHeartbeats 4000000
def dA (l:List Pt)(m:List Ed)(i:Nat):Dt:=⟨(jY l (dG m i).b).1 - (jY l (dG m i).a).1,(jY l (dG m i).b).2 - (jY l (dG m i).a).2,2*i,(dG m i).a,(dG m i).b⟩
def dB (l:List Pt)(m:List Ed)(i:Nat):Dt:=⟨(jY l (dG m i).a).1 - (jY l (dG m i).b).1,(jY l (dG m i).a).2 - (jY l (dG m i).b).2,2*i+1,(dG m i).b,(dG m i).a⟩
def aL (l:List Pt)(m:List Ed):Nat→List Dt
 |0=>[]
 |i+1=>aL l m i++[dA l m i,dB l m i]
theorem aY (l:List Pt)(m:List Ed):∀ i,(aL l m i).length=2*i
 |0=>rfl
 |i+1=>by rw [aL,List.length_append,aY];rfl
def w8 (m:List Ed)(c2:Nat)(j:Int):List (Nat × Value):=[(1,.pointer (some ⟨2,0,none⟩)),(3,.pointer (some ⟨3,0,none⟩)),(20,.slice (some ⟨1,0,none⟩) m.length c2),(21,iv m.length),(22,iv j)]
def xU (l:List Pt)(m:List Ed)(c1 c2:Nat)(n:Int)(k:Nat)(D:List Dt):Heap :=
 (6,.cells true false 5 (flat p0.fl D))::(5,.cells true false 1 (rep l.length [aM]))::(3,.cells true false 1 [.pointer (some ⟨4,0,none⟩)])::(4,.cells true false 1 (oK l.length m.length c1 c2 n (.slice (some ⟨6,0,none⟩) k k) (.slice (some ⟨5,0,none⟩) l.length l.length) aM)) ::
 (2,bI l.length m.length c1 c2 n)::aE a8 aX l m
theorem bm2 {k:Nat}{X Y:Prop}(h:Y):(match (generalizing:=false) Nat.ble (k+2) k with|true=>X|false=>Y):=by
 cases hb:Nat.ble (k+2) k with
 |false=>exact h
 |true=>have:=Nat.le_of_ble_eq_true hb;omega
theorem aBs {i N s:Nat}{p:Prop}(hN:N=i*s)(hi:i+2≤1000000000)
  (h:aA.A.andB (aA.A.andB ((i+2).ble 1000000000) ((0+i*s).ble N)) (aA.A.andB ((0+i*s).beq N) (Nat.beq s s))=false):p:=by
 exfalso;have h1:(i+2).ble 1000000000=true:=Nat.ble_eq_true_of_le hi;have h2:(0+i*s).ble N=true:=Nat.ble_eq_true_of_le (by omega);have h3:(0+i*s).beq N=true:=(by rw [hN,Nat.zero_add];exact Nat.beq_refl _);rw [h1,h2,h3,Nat.beq_refl] at h;cases h
theorem QL {α:Type}(E:El α)(o:List α)(x y:α){n:Nat}(hn:n=o.length):((flat E.fl o).drop 0).take (n*E.sz)++(E.fl x++E.fl y)=flat E.fl (o++[x,y]):=by
 subst hn;rw [List.drop_zero,← cG E o,List.take_length,AD];simp [flat]
theorem pA {l:List Pt}{m:List Ed}{n:Int}(h:cL l m n=true){i:Nat}(hi:i<l.length):0≤(pZ l i).1∧(pZ l i).1≤10000∧0≤(pZ l i).2∧(pZ l i).2≤10000:=by
 simp only [cL,Bool.and_eq_true] at h;have h1:=eH h.2.1 hi;simp only [QE,aW,Bool.and_eq_true,decide_eq_true_eq] at h1;omega
theorem aFl:dM aFs:=KJ (lB.cons (aEw 1000) .nil).look
end Go.Aw
end

noncomputable section
namespace Go.Aw
set_option maxRecDepth 100000
def bE (ls:List (List Int))(i:Nat):List Int:=ls.getD i []
theorem sK (ls:List (List Int)){s:Nat}(hs:s<ls.length)(x:List Int)(i:Nat):bE (ls.set s x) i=if i=s then x else bE ls i:=by
 unfold bE;rw [List.getD_eq_getElem?_getD,List.getD_eq_getElem?_getD,List.getElem?_set];by_cases h:s=i
 ·subst h;simp [hs]
 ·rw [if_neg h,if_neg (fun e=>h e.symm)]
def tN (s i:Nat):Nat:=if i=s then 7 else i+1000
def tV (q:Nat)(l:List Int):Value:=if l.length=0 then aM else .slice (some ⟨q,0,none⟩) l.length l.length
def tC (s:Nat)(ls:List (List Int)):List Value:=(List.range ls.length).map fun i=>tV (tN s i) (bE ls i)
theorem kI (s:Nat)(ls:List (List Int)):(tC s ls).length=ls.length:=by simp [tC]
theorem A1 {s:Nat}{ls:List (List Int)}{i:Nat}(hi:i<ls.length):(tC s ls)[i]? = some (tV (tN s i) (bE ls i)):=by
 unfold tC;rw [List.getElem?_map,List.getElem?_range hi];rfl
theorem CS {s:Nat}{ls:List (List Int)}{i o:Nat}(hi:i<ls.length)(ho:o=i*1):nth (tC s ls) o=some (tV (tN s i) (bE ls i)):=by
 rw [vP,ho,Nat.mul_one];exact A1 hi
theorem NP {cs:List Value}{i o:Nat}{v:Value}(ho:o=i)(hi:i<cs.length):eC cs o [v]=cs.set i v:=by
 subst ho;apply List.ext_getElem?;intro j;rw [MV (by simp;omega),List.getElem?_set];by_cases e:o=j
 ·subst e;rw [if_pos ⟨Nat.le_refl _,by simp⟩,if_pos rfl,if_pos hi,Nat.sub_self];rfl
 ·rw [if_neg (by simp;omega),if_neg e]
def ob (L:List Int):aS:=.cells true false 1 (flat aU.fl L)
def tH (s:Nat)(ls:List (List Int)):Nat→Heap
 |0=>[]
 |n+1=>if n=s∨(bE ls n).length=0 then tH s ls n else (n+1000,ob (bE ls n))::tH s ls n
theorem yW {s:Nat}{ls:List (List Int)}:∀ {n:Nat} {p:Nat × aS},p∈tH s ls n→∃ i,i<n∧i≠s∧(bE ls i).length≠0∧p=(i+1000,ob (bE ls i))
 |0,p,h=>by cases h
 |n+1,p,h=>by
  unfold tH at h;split at h
  ·obtain⟨i,h1,h2⟩:=yW h;exact⟨i,by omega,h2⟩
  ·rename_i hc;rcases List.mem_cons.1 h with rfl|h
   ·exact⟨n,Nat.lt_succ_self n,fun e=>hc (.inl e),fun e=>hc (.inr e),rfl⟩
   ·obtain⟨i,h1,h2⟩:=yW h;exact⟨i,by omega,h2⟩
theorem aZ {α:Type}{k n:Nat}{v:α}{r:List (Nat × α)}(h:k≠n):look ((k,v)::r) n=look r n:=by
 rw [aB];split
 ·rename_i hb;exact absurd (beq_true hb) h
 ·rfl
theorem jR {s:Nat}{ls:List (List Int)}{i:Nat}(h1:i≠s)(h2:(bE ls i).length≠0):∀ {n:Nat},i<n→look (tH s ls n) (i+1000)=some (ob (bE ls i))
 |0,h=>by omega
 |n+1,h=>by
  unfold tH;by_cases e:i=n
  ·subst e;rw [if_neg (by rintro (e|e);exact h1 e;exact h2 e),aB,Nat.beq_refl]
  ·split
   ·exact jR h1 h2 (by omega)
   ·rw [aZ (by omega)];exact jR h1 h2 (by omega)
theorem aCO {s:Nat}{ls:List (List Int)}{k n:Nat}(h:k<1000∨1000+n≤k):look (tH s ls n) k=none:=by
 cases hl:look (tH s ls n) k with
 |none=>rfl
 |some o =>
  obtain⟨i,h1,_,_,h2⟩:=yW (bA hl);injection h2 with h2 _;omega
theorem aB1 {s:Nat}{ls:List (List Int)}:∀ {n:Nat},(∀ i,i<n→(bE ls i).length=0)→tH s ls n=[]
 |0,_=>rfl
 |n+1,h=>by
  unfold tH;rw [if_pos (.inr (h n (Nat.lt_succ_self n)))];exact aB1 fun i hi=>h i (by omega)
def VA (L:List Int):Heap:=if L.length=0 then [] else [(7,ob L)]
def fH (l:List Pt)(m:List Ed)(c1 c2:Nat)(n:Int)(k:Nat)(D:List Dt)(s:Nat)(ls:List (List Int)):Heap :=
 (6,.cells true false 5 (flat p0.fl D))::(5,.cells true false 1 (tC s ls))::(3,.cells true false 1 [.pointer (some ⟨4,0,none⟩)])::(4,.cells true false 1 (oK l.length m.length c1 c2 n (.slice (some ⟨6,0,none⟩) k k) (.slice (some ⟨5,0,none⟩) l.length l.length) aM)) ::
 (2,bI l.length m.length c1 c2 n)::(0,.cells false true a8.sz (flat a8.fl l))::(1,.cells false true aX.sz (flat aX.fl m))::(VA (bE ls s)++tH s ls ls.length)
def nQ (k:Nat)(j:Int):List (Nat × Value):=[(3,.pointer (some ⟨3,0,none⟩)),(89,.slice (some ⟨6,0,none⟩) k k),(90,iv k),(91,iv j)]
theorem aC4 {ρ:Nat→Nat}{q a b:Nat}:bM ρ (.slice (some ⟨q,0,none⟩) a b)=.slice (some ⟨ρ q,0,none⟩) a b:=rfl
theorem DF {ρ:Nat→Nat}{q:Nat}{L:List Int}:bM ρ (tV q L)=tV (ρ q) L:=by
 unfold tV;split
 ·rfl
 ·rfl
theorem aII {q n:Nat}{L:List Int}(h:q<n):BR n (tV q L):=by
 unfold tV;split
 ·exact cD rfl
 ·exact⟨h,fun h=>by cases h⟩
theorem HW {s n:Nat}{ls:List (List Int)}(h7:7<n)(hn:ls.length+1000≤n):∀ v∈tC s ls,BR n v:=by
 intro v hv;unfold tC at hv;obtain⟨i,hi,rfl⟩:=List.mem_map.1 hv;have:=List.mem_range.1 hi;refine aII ?_;unfold tN;split <;> omega
def rh2 (s s':Nat):Nat→Nat:=rn [(7,if s'=s then 2002 else s'+1000),(s+1000,2002)]
theorem HB (s s':Nat):rh2 s s' 7=if s'=s then 2002 else s'+1000:=rfl
theorem TA {s s' k:Nat}(h:k<7):rh2 s s' k=k:=by
 unfold rh2 rn;rw [aZ (by omega),aZ (by omega)];rfl
theorem AO {s s' i:Nat}:rh2 s s' (i+1000)=if i=s then 2002 else i+1000:=by
 unfold rh2 rn;rw [aZ (by omega)];by_cases e:i=s
 ·rw [if_pos e,e,aB,Nat.beq_refl]
 ·rw [if_neg e,aZ (by omega)];rfl
theorem aIG (s s' i:Nat)(hi:i=s'→s'≠s→i≠s):rh2 s s' (tN s' i)=if i=s then 2002 else i+1000:=by
 unfold tN;by_cases e:i=s'
 ·rw [if_pos e,HB];by_cases e2:s'=s
  ·rw [if_pos e2,if_pos (e.trans e2)]
  ·rw [if_neg e2,if_neg (hi e e2),e]
 ·rw [if_neg e,AO]
def Fx (v:Value):Prop:=(∃ q a b,q<7∧v=.slice (some ⟨q,0,none⟩) a b)∨(∃ q,q<7∧v=.pointer (some ⟨q,0,none⟩))∨gS v=true
theorem Fx.iM {ρ:Nat→Nat}(hρ:∀ k,k<7→ρ k=k){v:Value}(h:Fx v):bM ρ v=v:=by
 rcases h with ⟨q,a,b,hq,rfl⟩|⟨q,hq,rfl⟩|h
 ·rw [aC4,hρ q hq]
 ·show Value.pointer (some ⟨ρ q,0,none⟩)=_;rw [hρ q hq]
 ·exact mT h
theorem Fx.nm {v:Value}{n:Nat}(hn:7≤n)(h:Fx v):BR n v:=by
 rcases h with ⟨q,a,b,hq,rfl⟩|⟨q,hq,rfl⟩|h
 ·exact⟨Nat.lt_of_lt_of_le hq hn,fun h=>by cases h⟩
 ·exact⟨Nat.lt_of_lt_of_le hq hn,rfl⟩
 ·exact cD h
theorem HO {ρ:Nat→Nat}(hρ:∀ k,k<7→ρ k=k){n:Nat}(hn:7≤n){wr g:Bool}{sz:Nat}{cs:List Value}(h:∀ v∈cs,Fx v):bT ρ n (.cells wr g sz cs) (.cells wr g sz cs):=by
 refine⟨rfl,rfl,rfl,?_,fun v hv=>(h v hv).nm hn⟩
 conv=>lhs;rw [← List.map_id cs]
 exact List.map_congr_left fun v hv=>((h v hv).iM hρ).symm
theorem IU {α:Type}(E:El α)(l:List α):∀ v∈flat E.fl l,Fx v:=fun v hv=>.inr (.inr (a9 (aF E l) hv))
theorem WY {q a b:Nat}(h:q<7):Fx (.slice (some ⟨q,0,none⟩) a b):=.inl ⟨q,a,b,h,rfl⟩
theorem aKb {q:Nat}(h:q<7):Fx (.pointer (some ⟨q,0,none⟩)):=.inr (.inl ⟨q,h,rfl⟩)
theorem aEZ {v:Value}(h:gS v=true):Fx v:=.inr (.inr h)
def qD (l:List Pt)(m:List Ed)(c1 c2:Nat)(n:Int)(k:Nat)(D:List Dt):Heap :=
 [(6,.cells true false 5 (flat p0.fl D)),(3,.cells true false 1 [.pointer (some ⟨4,0,none⟩)]),(4,.cells true false 1 (oK l.length m.length c1 c2 n (.slice (some ⟨6,0,none⟩) k k) (.slice (some ⟨5,0,none⟩) l.length l.length) aM)),
 (2,bI l.length m.length c1 c2 n),(0,.cells false true a8.sz (flat a8.fl l)),(1,.cells false true aX.sz (flat aX.fl m))]
theorem x9 {ρ:Nat→Nat}(hρ:∀ k,k<7→ρ k=k){N:Nat}(hN:7≤N){l:List Pt}{m:List Ed}{c1 c2:Nat}{n:Int}{k:Nat}{D:List Dt}:∀ p∈qD l m c1 c2 n k D,p.1<7∧p.1≠5∧bT ρ N p.2 p.2:=by
 unfold qD;refine List.forall_mem_cons.2 ⟨⟨Nat.le_of_ble_eq_true rfl,Nat.ne_of_beq_eq_false rfl,HO hρ hN (IU _ _)⟩,List.forall_mem_cons.2 ⟨⟨Nat.le_of_ble_eq_true rfl,Nat.ne_of_beq_eq_false rfl,HO hρ hN ?_⟩,List.forall_mem_cons.2 ⟨⟨Nat.le_of_ble_eq_true rfl,Nat.ne_of_beq_eq_false rfl,HO hρ hN ?_⟩,List.forall_mem_cons.2 ⟨⟨Nat.le_of_ble_eq_true rfl,Nat.ne_of_beq_eq_false rfl,HO hρ hN ?_⟩,List.forall_mem_cons.2 ⟨⟨Nat.le_of_ble_eq_true rfl,Nat.ne_of_beq_eq_false rfl,HO hρ hN (IU _ _)⟩,List.forall_mem_cons.2 ⟨⟨Nat.le_of_ble_eq_true rfl,Nat.ne_of_beq_eq_false rfl,HO hρ hN (IU _ _)⟩,fun _ h=>(by cases h)⟩⟩⟩⟩⟩⟩
 ·exact List.forall_mem_cons.2 ⟨aKb (by decide),fun _ h=>(by cases h)⟩
 ·exact List.forall_mem_cons.2 ⟨WY (by decide),List.forall_mem_cons.2 ⟨WY (by decide),List.forall_mem_cons.2 ⟨aEZ rfl,List.forall_mem_cons.2 ⟨WY (by decide),List.forall_mem_cons.2 ⟨WY (by decide),List.forall_mem_cons.2 ⟨aEZ rfl,fun _ h=>(by cases h)⟩⟩⟩⟩⟩⟩
 ·exact List.forall_mem_cons.2 ⟨WY (by decide),List.forall_mem_cons.2 ⟨WY (by decide),List.forall_mem_cons.2 ⟨aEZ rfl,fun _ h=>(by cases h)⟩⟩⟩
theorem sY {l:List Pt}{m:List Ed}{c1 c2:Nat}{n:Int}{k:Nat}{D:List Dt}{s:Nat}{ls:List (List Int)}{p:Nat × aS}(h:p∈fH l m c1 c2 n k D s ls) :
  p∈qD l m c1 c2 n k D∨p=(5,.cells true false 1 (tC s ls))∨((bE ls s).length≠0∧p=(7,ob (bE ls s)))∨∃ i,i<ls.length∧i≠s∧(bE ls i).length≠0∧p=(i+1000,ob (bE ls i)):=by
 unfold fH at h;unfold qD;simp only [List.mem_cons,List.mem_append,List.not_mem_nil,or_false] at h ⊢;rcases h with h|h|h|h|h|h|h|h|h
 ·exact .inl (.inl h)
 ·exact .inr (.inl h)
 ·exact .inl (.inr (.inl h))
 ·exact .inl (.inr (.inr (.inl h)))
 ·exact .inl (.inr (.inr (.inr (.inl h))))
 ·exact .inl (.inr (.inr (.inr (.inr (.inl h)))))
 ·exact .inl (.inr (.inr (.inr (.inr (.inr h)))))
 ·unfold VA at h;split at h
  ·cases h
  ·rename_i hc;exact .inr (.inr (.inl ⟨hc,by simpa using h⟩))
 ·obtain⟨i,h1,h2,h3,h4⟩:=yW h;exact .inr (.inr (.inr ⟨i,h1,h2,h3,h4⟩))
theorem y8 {ρ:Nat→Nat}{n:Nat}{L:List Int}:bT ρ n (ob L) (ob L):=aI (aF _ _)
theorem FD {ρ:Nat→Nat}{s':Nat}{ls':List (List Int)}{cs:List Value}(hl:cs.length=ls'.length)(h:∀ i,i<ls'.length→cs[i]? = some (tV (ρ (tN s' i)) (bE ls' i))):cs=(tC s' ls').map (bM ρ):=by
 apply List.ext_getElem?;intro i;by_cases hi:i<ls'.length
 ·rw [h i hi,List.getElem?_map,A1 hi];simp only [Option.map_some,DF]
 ·rw [List.getElem?_eq_none (by omega),List.getElem?_eq_none (by rw [List.length_map,kI];omega)]
section
variable {l:List Pt}{m:List Ed}{c1 c2:Nat}{n:Int}{k:Nat}{D:List Dt}{s s' q:Nat}{ls:List (List Int)}{x j:Int}{e:List (Nat × Value)}{h:Heap}{nx:Nat}{I:KS}
theorem ZW {ρ:Nat→Nat}(hρ:∀ k,k<7→ρ k=k)(he:∀ p∈nQ k j,look e p.1=some p.2):∀ t v,look (nQ k j) t=some v→look e t=some (iM ρ v)∧BK 2000 v:=by
 intro t v hv;have hm:=bA hv;have h1:=he _ hm;unfold nQ at hm;simp only [List.mem_cons,List.not_mem_nil,or_false] at hm;rw [h1];rcases hm with hm|hm|hm|hm <;> (injection hm with _ hm;subst hm)
 ·exact⟨by show some (Value.pointer (some ⟨3,0,none⟩))=some (Value.pointer (some ⟨ρ 3,0,none⟩));rw [hρ 3 (by decide)],by decide,rfl⟩
 ·exact⟨by show some (Value.slice (some ⟨6,0,none⟩) k k)=some (Value.slice (some ⟨ρ 6,0,none⟩) k k);rw [hρ 6 (by decide)],by decide,fun h=>by cases h⟩
 ·exact⟨by rw [iM,fU rfl],dD rfl⟩
 ·exact⟨by rw [iM,fU rfl],dD rfl⟩
theorem aEm (hs:s<ls.length)(hn:ls.length≤1000)(hI:I (nQ k j) (fH l m c1 c2 n k D s' (ls.set s (bE ls s++[x]))) 2000)(he:∀ p∈nQ k j,look e p.1=some p.2)
  (hb:∀ p∈qD l m c1 c2 n k D,look h p.1=some p.2) (hq:q=(bE ls s).length+1) (h5:look h 5=some (.cells true false 1 ((tC s ls).set s (.slice (some ⟨2002,0,none⟩) q q))))
  (h2:look h 2002=some (ob (bE ls s++[x]))) (ht:∀ i,i<ls.length→i≠s→(bE ls i).length≠0→look h (i+1000)=some (ob (bE ls i))):qI 2 I e h nx:=by
 have hat:∀ i,bE (ls.set s (bE ls s++[x])) i=if i=s then bE ls s++[x] else bE ls i:=sK ls hs _
 have hl:(ls.set s (bE ls s++[x])).length=ls.length:=List.length_set;have hρ:∀ k,k<7→rh2 s s' k=k:=fun k hk=>TA hk;generalize ls.set s (bE ls s++[x])=ls' at hI hat hl;refine⟨nQ k j,fH l m c1 c2 n k D s' ls',2000,rh2 s s',hI,ZW hρ he,?_,?_,fun k hk=>TA (by omega),by omega⟩
 ·intro k' o hk;rcases sY (bA hk) with hm|hm|⟨h7,hm⟩|⟨i,h1,h3,h4,hm⟩
  ·obtain⟨a1,_,a2⟩:=x9 hρ (N:=2000) (by omega) _ hm;simp only at a1 a2;exact⟨by omega,o,by rw [hρ k' a1];exact hb _ hm,a2⟩
  ·injection hm with e1 e2;subst e1 e2;refine⟨by omega,.cells true false 1 ((tC s ls).set s (.slice (some ⟨2002,0,none⟩) q q)),by rw [hρ 5 (by omega)];exact h5,rfl,rfl,rfl,FD (by rw [List.length_set,kI,hl]) fun i hi=>?_,HW (by omega) (by omega)⟩;rw [hl] at hi;rw [aIG s s' i (fun e1 e2 e3=>e2 (e1.symm.trans e3)),List.getElem?_set,hat];by_cases e1:s=i
   ·subst e1;rw [if_pos rfl,if_pos rfl,if_pos rfl,if_pos (by rw [kI];exact hi)];unfold tV;rw [if_neg (by simp),List.length_append,hq];rfl
   ·rw [if_neg e1,if_neg (fun e=>e1 e.symm),if_neg (fun e=>e1 e.symm),A1 hi];unfold tN;rw [if_neg (fun e=>e1 e.symm)]
  ·injection hm with e1 e2;subst e1 e2;rw [HB,hat];rw [hat] at h7;by_cases e1:s'=s
   ·rw [if_pos e1,if_pos e1];exact⟨by omega,_,h2,y8⟩
   ·rw [if_neg e1,if_neg e1];rw [if_neg e1] at h7;have hs':s'<ls.length:=by
     refine Decidable.byContradiction fun hc=>h7 ?_;unfold bE;rw [List.getD_eq_getElem?_getD,List.getElem?_eq_none (by omega)];rfl
    exact⟨by omega,_,ht s' hs' e1 h7,y8⟩
  ·injection hm with e1 e2;subst e1 e2;rw [hl] at h1;rw [AO,hat];rw [hat] at h4;by_cases e1:i=s
   ·rw [if_pos e1,if_pos e1];exact⟨by omega,_,h2,y8⟩
   ·rw [if_neg e1,if_neg e1];rw [if_neg e1] at h4;exact⟨by omega,_,ht i h1 e1 h4,y8⟩
 ·have hc:∀ {k' o},look (fH l m c1 c2 n k D s' ls') k'=some o→k'<7∨(k'=7∧(s'≠s→s'<ls.length))∨∃ i,i<ls.length∧i≠s'∧k'=i+1000:=by
   intro k' o hk;rcases sY (bA hk) with hm|hm|⟨h7,hm⟩|⟨i,h1,h3,h4,hm⟩
   ·exact .inl (x9 hρ (N:=2000) (by omega) _ hm).1
   ·injection hm with e1 e2;exact .inl (by omega)
   ·injection hm with e1 e2;refine .inr (.inl ⟨e1,fun e2=>Decidable.byContradiction fun hc=>h7 ?_⟩);rw [hat,if_neg e2];unfold bE;rw [List.getD_eq_getElem?_getD,List.getElem?_eq_none (by omega)];rfl
   ·injection hm with e1 e2;exact .inr (.inr ⟨i,by omega,h3,e1⟩)
  intro k1 k2 o1 o2 hk1 hk2 heq;rcases hc hk1 with a1|⟨a1,a2⟩|⟨i1,a1,a2,a3⟩ <;> rcases hc hk2 with b1|⟨b1,b2⟩|⟨i2,b1,b2,b3⟩
  ·rw [hρ _ a1,hρ _ b1] at heq;exact heq
  ·rw [hρ _ a1,b1,HB] at heq;split at heq <;> omega
  ·rw [hρ _ a1,b3,AO] at heq;split at heq <;> omega
  ·rw [hρ _ b1,a1,HB] at heq;split at heq <;> omega
  ·omega
  ·rw [a1,b3,HB,AO] at heq;split at heq <;> split at heq <;> omega
  ·rw [hρ _ b1,a3,AO] at heq;split at heq <;> omega
  ·rw [b1,a3,HB,AO] at heq;split at heq <;> split at heq <;> omega
  ·rw [a3,b3,AO,AO] at heq;split at heq <;> split at heq <;> omega
end
theorem MH {A B:List Dt}{i:Nat}(h:i<A.length):bK (A++B) i=bK A i:=by
 unfold bK;rw [List.getD_eq_getElem?_getD,List.getD_eq_getElem?_getD,List.getElem?_append_left h]
theorem LJ {A B:List Dt}{i j:Nat}(h:i=A.length+j):bK (A++B) i=bK B j:=by
 unfold bK;rw [List.getD_eq_getElem?_getD,List.getD_eq_getElem?_getD,List.getElem?_append_right (by omega),show i - A.length=j by omega]
theorem FE (l:List Pt)(m:List Ed):∀ {N i:Nat},i<N→bK (aL l m N) (2*i)=dA l m i∧bK (aL l m N) (2*i+1)=dB l m i
 |0,i,h=>by omega
 |N+1,i,h=>by
  have hl:=aY l m N;unfold aL;by_cases e:i=N
  ·subst e;rw [LJ (j:=0) (by omega),LJ (j:=1) (by omega)];exact⟨rfl,rfl⟩
  ·rw [MH (by omega),MH (by omega)];exact FE l m (by omega)
theorem kN {l:List Pt}{m:List Ed}{N i:Nat}(h:i<2*N):(i % 2=0∧bK (aL l m N) i=dA l m (i / 2))∨(i % 2=1∧bK (aL l m N) i=dB l m (i / 2)):=by
 have:=FE l m (N:=N) (i:=i / 2) (by omega);by_cases e:i % 2=0
 ·left;rw [show 2*(i / 2)=i by omega] at this;exact⟨e,this.1⟩
 ·right;rw [show 2*(i / 2)+1=i by omega] at this;exact⟨by omega,this.2⟩
theorem eR {l:List Pt}{m:List Ed}(hM:ND l m=true){i:Nat}(h:i<2*m.length):0≤(bK (aL l m m.length) i).fr∧(bK (aL l m m.length) i).fr<l.length∧0≤(bK (aL l m m.length) i).tt∧(bK (aL l m m.length) i).tt<l.length∧(bK (aL l m m.length) i).no=i:=by
 have he:=uO hM (i:=i / 2) (by omega);rcases kN (l:=l) (m:=m) h with ⟨e,h1⟩|⟨e,h1⟩
 ·rw [h1];simp only [dA];omega
 ·rw [h1];simp only [dB];omega
theorem aA3 {l:List Pt}{m:List Ed}{n:Int}(hok:cL l m n=true)(hM:ND l m=true):aA8 (aL l m m.length)=true:=by
 refine List.all_eq_true.2 fun d hd=>?_;obtain⟨i,hi,rfl⟩:=List.getElem_of_mem hd;rw [← oB hi];rw [aY] at hi;have he:=uO hM (i:=i / 2) (by omega);have pa:=pA hok (i:=(dG m (i / 2)).a.toNat) (by omega);have pb:=pA hok (i:=(dG m (i / 2)).b.toNat) (by omega);rcases kN (l:=l) (m:=m) hi with ⟨e,h1⟩|⟨e,h1⟩
 ·rw [h1];unfold wide;simp only [Bool.and_eq_true,decide_eq_true_eq];simp only [dL,dA,jY];omega
 ·rw [h1];unfold wide;simp only [Bool.and_eq_true,decide_eq_true_eq];simp only [dL,dB,jY];omega
def oJ (nP:Nat)(D:List Dt):Nat→List (List Int)
 |0=>List.replicate nP []
 |j+1=>(oJ nP D j).set (bK D j).fr.toNat (bE (oJ nP D j) (bK D j).fr.toNat++[(bK D j).no])
theorem mD (nP:Nat)(D:List Dt):∀ j,(oJ nP D j).length=nP
 |0=>List.length_replicate
 |j+1=>by unfold oJ;rw [List.length_set];exact mD nP D j
theorem CC (nP:Nat)(D:List Dt):∀ (j s:Nat),(∀ i,i<j→(bK D i).fr.toNat<nP)→(bE (oJ nP D j) s).length≤j
 |0,s,_=>by
  show (bE (List.replicate nP []) s).length≤0;unfold bE;rw [List.getD_eq_getElem?_getD,List.getElem?_replicate];split <;> exact Nat.le_refl _
 |j+1,s,h=>by
  unfold oJ;rw [sK _ (by rw [mD];exact h j (Nat.lt_succ_self j))];split
  ·rename_i e;have:=CC nP D j (bK D j).fr.toNat fun i hi=>h i (by omega);rw [List.length_append,List.length_singleton];omega
  ·have:=CC nP D j s fun i hi=>h i (by omega);omega
theorem bm1 {k:Nat}{X Y:Prop}(h:Y):(match (generalizing:=false) Nat.ble (k+1) k with|true=>X|false=>Y):=by
 cases hb:Nat.ble (k+1) k with
 |false=>exact h
 |true=>have:=Nat.le_of_ble_eq_true hb;omega
def sD (nP:Nat)(D:List Dt)(i:Nat):Nat:=if i<D.length then (bK D i).fr.toNat else nP
theorem CA {n i:Nat}:bE (List.replicate n []) i=[]:=by
 unfold bE;rw [List.getD_eq_getElem?_getD,List.getElem?_replicate];split <;> rfl
theorem aFv {n s:Nat}:tC s (List.replicate n [])=List.replicate n aM:=by
 apply List.ext_getElem?;intro i;by_cases hi:i<n
 ·rw [A1 (by rw [List.length_replicate];exact hi),List.getElem?_replicate,if_pos hi,CA];rfl
 ·rw [List.getElem?_eq_none (by rw [kI,List.length_replicate];omega),List.getElem?_eq_none (by rw [List.length_replicate];omega)]
theorem SN (v:Value):∀ n,rep n [v]=List.replicate n v
 |0=>rfl
 |n+1=>by rw [List.replicate_succ,← SN v n];rfl
theorem aD5 {l:List Pt}{m:List Ed}{c1 c2:Nat}{n:Int}{k:Nat}{D:List Dt}{s:Nat}:fH l m c1 c2 n k D s (List.replicate l.length [])=xU l m c1 c2 n k D:=by
 unfold fH xU;rw [aFv,CA,aB1 (fun i _=>by rw [CA];rfl),SN];rfl
def Q8 (D:List Dt)(s j:Nat):List Int:=((List.range j).filter fun i=>decide ((bK D i).fr.toNat=s)).map fun (i:Nat)=>(i:Int)
theorem CH {nP:Nat}{D:List Dt}:∀ (j:Nat),(∀ i,i<j→(bK D i).fr.toNat<nP∧(bK D i).no=i)→∀ s,bE (oJ nP D j) s=Q8 D s j
 |0,_,s=>CA
 |j+1,h,s=>by
  have ih:=CH j fun i hi=>h i (by omega);have hj:=h j (Nat.lt_succ_self j);unfold oJ;rw [sK _ (by rw [mD];exact hj.1),ih,ih];unfold Q8;rw [List.range_succ,List.filter_append,List.map_append];by_cases e:s=(bK D j).fr.toNat
  ·rw [if_pos e,e,hj.2];congr 1;rw [List.filter_cons_of_pos (by simp)];rfl
  ·rw [if_neg e,List.filter_cons_of_neg (by simpa using fun h=>e h.symm)];simp
theorem KG {D:List Dt}{s j:Nat}{x:Int}(h:x∈Q8 D s j):∃ i,i<j∧x=i∧(bK D i).fr.toNat=s:=by
 unfold Q8 at h;obtain⟨i,hi,rfl⟩:=List.mem_map.1 h;obtain⟨h1,h2⟩:=List.mem_filter.1 hi;exact⟨i,List.mem_range.1 h1,rfl,by simpa using h2⟩
theorem O0 {D:List Dt}{s j i:Nat}(h:i<j)(hs:(bK D i).fr.toNat=s):(i:Int)∈Q8 D s j :=
 List.mem_map.2 ⟨i,List.mem_filter.2 ⟨List.mem_range.2 h,by simpa using hs⟩,rfl⟩
theorem yE (k:List Bool)(x:Nat)(i:Nat)(h:cM (k.set x true) i=true):i=x∨cM k i=true:=by
 unfold cM at h ⊢;rw [List.getD_eq_getElem?_getD,List.getElem?_set] at h;by_cases e:x=i
 ·exact .inl e.symm
 ·rw [if_neg e,← List.getD_eq_getElem?_getD] at h;exact .inr h
theorem HD (m:List Ed)(s:List Bool):∀ (i p:Nat),cM (x6 m s i) p=true→cM s p=true∨∃ e,e<i∧(p=(dG m e).a.toNat∨p=(dG m e).b.toNat)
 |0,p,h=>.inl h
 |i+1,p,h=>by
  unfold x6 at h;rcases yE _ _ _ h with e|h
  ·exact .inr ⟨i,Nat.lt_succ_self i,.inr e⟩
  ·rcases yE _ _ _ h with e|h
   ·exact .inr ⟨i,Nat.lt_succ_self i,.inl e⟩
   ·rcases HD m s i p h with h|⟨e,h1,h2⟩
    ·exact .inl h
    ·exact .inr ⟨e,by omega,h2⟩
theorem TJ {l:List Pt}{m:List Ed}{n:Int}(hok:cL l m n=true){s:Nat}(hs:s<l.length):(Q8 (aL l m m.length) s (2*m.length)).length≠0:=by
 simp only [cL,Bool.and_eq_true] at hok;have h1:=List.all_eq_true.1 hok.2.2.2;have h2:cM (x6 m (List.replicate l.length false) m.length) s=true:=by
  rw [qQ (by rw [FP,List.length_replicate];exact hs)];exact h1 _ (List.getElem_mem _)
 rcases HD m _ m.length s h2 with h|⟨e,h3,h4⟩
 ·unfold cM at h;rw [List.getD_eq_getElem?_getD,List.getElem?_replicate] at h;split at h <;> cases h
 ·have hd:=FE l m h3;rcases h4 with h4|h4
  ·have:=O0 (D:=aL l m m.length) (s:=s) (j:=2*m.length) (i:=2*e) (by omega) (by rw [hd.1,h4];rfl);intro h0;rw [List.eq_nil_of_length_eq_zero h0] at this;cases this
  ·have:=O0 (D:=aL l m m.length) (s:=s) (j:=2*m.length) (i:=2*e+1) (by omega) (by rw [hd.2,h4];rfl);intro h0;rw [List.eq_nil_of_length_eq_zero h0] at this;cases this
theorem DZ (m:Nat):∀ (k:Nat) (L:List Int) (i j:Nat),(bO m k L i j).length=L.length
 |0,L,i,j=>rfl
 |k+1,L,i,j=>by
  unfold bO;split
  ·exact gI _ _ _ _
  ·split
   ·rw [DZ m k,gI]
   ·rw [DZ m k,gI]
theorem UW (L:List Int)(a:Nat):∀ t,(WM L a t).length=L.length
 |0=>rfl
 |t+1=>by unfold WM;rw [gL];exact UW L a t
theorem TV (L:List Int)(a:Nat):∀ t,(VM L a t).length=L.length
 |0=>rfl
 |t+1=>by unfold VM;rw [gL];exact TV L a t
theorem pH {c:Prop}[Decidable c]{a b:List Int}{n:Nat}(ha:a.length=n)(hb:b.length=n):(if c then a else b).length=n:=by
 split
 ·exact ha
 ·exact hb
theorem xD (D:CW):∀ (k:Nat) (L:List Int) (a m b:Nat),(aP D k L a m b).length=L.length
 |0,L,_,_,_=>rfl
 |k+1,L,a,m,b=>by
  unfold aP;refine pH (UW _ _ _) (pH (TV _ _ _) ?_);simp only;have h1:(if stM D L a m b<m∧m<(a+b) / 2+m - stM D L a m b then bO m (m - stM D L a m b+((a+b) / 2+m - stM D L a m b - m)) L (m - stM D L a m b) ((a+b) / 2+m - stM D L a m b - m) else L).length=L.length:=pH (DZ _ _ _ _ _) rfl;have h2:(if a<stM D L a m b∧stM D L a m b<(a+b) / 2 then aP D k (if stM D L a m b<m∧m<(a+b) / 2+m - stM D L a m b then bO m (m - stM D L a m b+((a+b) / 2+m - stM D L a m b - m)) L (m - stM D L a m b) ((a+b) / 2+m - stM D L a m b - m) else L) a (stM D L a m b) ((a+b) / 2) else (if stM D L a m b<m∧m<(a+b) / 2+m - stM D L a m b then bO m (m - stM D L a m b+((a+b) / 2+m - stM D L a m b - m)) L (m - stM D L a m b) ((a+b) / 2+m - stM D L a m b - m) else L)).length=L.length:=pH ((xD D k _ _ _ _).trans h1) h1;exact pH ((xD D k _ _ _ _).trans h2) h2
theorem M1 (D:CW)(n:Nat):∀ (k:Nat) (L:List Int) (a:Nat),(nX D n k L a).1.length=L.length
 |0,L,a=>rfl
 |k+1,L,a=>by
  unfold nX;split
  ·rw [M1 D n k,qP]
  ·rfl
theorem MZ (D:CW)(f n bs:Nat):∀ (k:Nat) (L:List Int) (a:Nat),(qG D f n bs k L a).1.length=L.length
 |0,L,a=>rfl
 |k+1,L,a=>by
  unfold qG;split
  ·rw [MZ D f n bs k,xD]
  ·rfl
theorem aAD (D:CW)(f n bs:Nat)(r:List Int × Nat):(u6 D f n bs r).length=r.1.length:=by
 unfold u6;exact pH (xD _ _ _ _ _ _) rfl
theorem M3 (D:CW)(f n:Nat):∀ (k:Nat) (L:List Int) (bs:Nat),(DC D f n k L bs).length=L.length
 |0,L,bs=>rfl
 |k+1,L,bs=>by
  unfold DC;refine pH ?_ rfl;rw [M3 D f n k,aAD,MZ]
theorem N6 (D:CW)(f:Nat)(L:List Int):(qE D f L).length=L.length:=by
 unfold qE;rw [M3,qP,M1]
def srN (D:List Dt)(ls:List (List Int)):Nat→List (List Int)
 |0=>ls
 |i+1=>(srN D ls i).set i (qE D 1000 (bE ls i))
theorem pI (D:List Dt)(ls:List (List Int)):∀ i,(srN D ls i).length=ls.length
 |0=>rfl
 |i+1=>by unfold srN;rw [List.length_set];exact pI D ls i
theorem RE (D:List Dt)(ls:List (List Int)):∀ {i:Nat},i≤ls.length→∀ s,bE (srN D ls i) s=if s<i then qE D 1000 (bE ls s) else bE ls s
 |0,h,s=>by rw [if_neg (by omega)];rfl
 |i+1,h,s=>by
  have ih:=RE D ls (i:=i) (by omega) s;unfold srN;rw [sK _ (by rw [pI];omega),ih];by_cases e:s=i
  ·rw [if_pos e,if_pos (by omega),e]
  ·rw [if_neg e];by_cases e2:s<i
   ·rw [if_pos e2,if_pos (by omega)]
   ·rw [if_neg e2,if_neg (by omega)]
theorem ZJ {s:Nat}{ls ls':List (List Int)}(hl:ls'.length=ls.length)(h:∀ i,i<ls.length→(bE ls' i).length=(bE ls i).length):tC s ls'=tC s ls:=by
 unfold tC;rw [hl];refine List.map_congr_left fun i hi=>?_;unfold tV;rw [h i (List.mem_range.1 hi)]
theorem K9 {l:List Pt}{m:List Ed}{c1 c2:Nat}{n:Int}{k:Nat}{D:List Dt}{s:Nat}{ls:List (List Int)}{e0 e:List (Nat × Value)}{h:Heap}{nx:Nat}{I:KS}(hn:ls.length≤1000)(hs:ls.length≤s)(hI:I e0 (fH l m c1 c2 n k D s ls) 2000)
  (he:∀ p∈e0,look e p.1=some (iM id p.2)∧BK 2000 p.2) (hb:∀ p∈qD l m c1 c2 n k D,look h p.1=some p.2) (h5:look h 5=some (.cells true false 1 (tC s ls)))
  (ht:∀ i,i<ls.length→(bE ls i).length≠0→look h (i+1000)=some (ob (bE ls i))):qI 2 I e h nx:=by
 refine⟨e0,fH l m c1 c2 n k D s ls,2000,id,hI,fun t v hv=>he _ (bA hv),fun k' o hk=>?_,fun k' k'' _ _ _ _ h=>h,fun _ _=>rfl,by omega⟩;rcases sY (bA hk) with hm|hm|⟨h7,hm⟩|⟨i,h1,h3,h4,hm⟩
 ·obtain⟨a1,_,a2⟩:=x9 (ρ:=id) (fun _ _=>rfl) (N:=2000) (by omega) _ hm;simp only at a1 a2;exact⟨by omega,o,hb _ hm,a2⟩
 ·injection hm with e1 e2;subst e1 e2;refine⟨by omega,.cells true false 1 (tC s ls),h5,rfl,rfl,rfl,FD (kI _ _) fun i hi=>A1 hi,HW (by omega) (by omega)⟩
 ·exfalso;refine h7 ?_;unfold bE;rw [List.getD_eq_getElem?_getD,List.getElem?_eq_none hs];rfl
 ·injection hm with e1 e2;subst e1 e2;exact⟨by omega,_,ht i h1 h4,y8⟩
def VW (l:List Pt)(m:List Ed)(c1 c2:Nat)(n:Int)(k:Nat)(D:List Dt)(ls:List (List Int)):Heap :=
 (4,.cells true false 1 (oK l.length m.length c1 c2 n (.slice (some ⟨6,0,none⟩) k k) (.slice (some ⟨5,0,none⟩) l.length l.length) aM))::(6,.cells true false 5 (flat p0.fl D))::(5,.cells true false 1 (tC ls.length ls)) ::
 (0,.cells false true a8.sz (flat a8.fl l))::(1,.cells false true aX.sz (flat aX.fl m))::tH ls.length ls ls.length
theorem aAs {l:List Pt}{m:List Ed}{c1 c2:Nat}{n:Int}{k:Nat}{D:List Dt}{s:Nat}{ls:List (List Int)}{h:Heap}{nx:Nat}(hn:ls.length≤1000)(hs:ls.length=s)(hh:h=fH l m c1 c2 n k D s ls):K1 (.pointer (some ⟨4,0,none⟩)) (VW l m c1 c2 n k D ls) 2000 (.pointer (some ⟨4,0,none⟩)) h nx:=by
 subst hs hh;have hsub:∀ p,p∈VW l m c1 c2 n k D ls→p∈fH l m c1 c2 n k D ls.length ls:=by
  intro p hp;unfold VW at hp;unfold fH;simp only [List.mem_cons,List.mem_append] at hp ⊢;rcases hp with hp|hp|hp|hp|hp|hp
  ·exact .inr (.inr (.inr (.inl hp)))
  ·exact .inl hp
  ·exact .inr (.inl hp)
  ·exact .inr (.inr (.inr (.inr (.inr (.inl hp)))))
  ·exact .inr (.inr (.inr (.inr (.inr (.inr (.inl hp))))))
  ·exact .inr (.inr (.inr (.inr (.inr (.inr (.inr (.inr hp)))))))
 have h5:look (fH l m c1 c2 n k D ls.length ls) 5=some (.cells true false 1 (tC ls.length ls)):=rfl;have hb:∀ p∈qD l m c1 c2 n k D,look (fH l m c1 c2 n k D ls.length ls) p.1=some p.2:=by
  unfold qD;exact List.forall_mem_cons.2 ⟨rfl,List.forall_mem_cons.2 ⟨rfl,List.forall_mem_cons.2 ⟨rfl,List.forall_mem_cons.2 ⟨rfl,List.forall_mem_cons.2 ⟨rfl,List.forall_mem_cons.2 ⟨rfl,fun _ h=>(by cases h)⟩⟩⟩⟩⟩⟩
 have h7:(bE ls ls.length).length=0:=by
  unfold bE;rw [List.getD_eq_getElem?_getD,List.getElem?_eq_none (Nat.le_refl _)];rfl
 refine⟨id,fun t v hv=>?_,fun k' o hk=>?_,fun k' k'' _ _ _ _ h=>h,fun _ _=>rfl,by omega⟩
 ·have hm:=bA hv;simp only [List.mem_cons,List.not_mem_nil,or_false] at hm;injection hm with e1 e2;subst e1 e2;exact⟨rfl,Nat.le_of_ble_eq_true rfl,rfl⟩
 ·rcases sY (hsub _ (bA hk)) with hm|hm|⟨h8,hm⟩|⟨i,h1,h3,h4,hm⟩
  ·obtain⟨a1,_,a2⟩:=x9 (ρ:=id) (fun _ _=>rfl) (N:=2000) (by omega) _ hm;simp only at a1 a2;exact⟨by omega,o,hb _ hm,a2⟩
  ·injection hm with e1 e2;subst e1 e2;refine⟨by omega,.cells true false 1 (tC ls.length ls),h5,rfl,rfl,rfl,FD (kI _ _) fun i hi=>A1 hi,HW (by omega) (by omega)⟩
  ·exact absurd h7 h8
  ·injection hm with e1 e2;subst e1 e2;refine⟨by omega,_,?_,y8⟩;unfold fH
   repeat rw [aZ (by omega)]
   rw [show VA (bE ls ls.length)=[] from if_pos h7];exact jR h3 h4 h1
theorem kQ {ls:List (List Int)}{s:Nat}(h:ls.length≤s):VA (bE ls s)=[]:=by
 unfold bE;rw [List.getD_eq_getElem?_getD,List.getElem?_eq_none h];rfl
def outs (l:List Pt)(m:List Ed):List (List Int):=srN (aL l m m.length) (oJ l.length (aL l m m.length) (2*m.length)) l.length
theorem eJ (l:List Pt)(m:List Ed):(outs l m).length=l.length:=by unfold outs;rw [pI,mD]
theorem IT (s:Nat)(ls:List (List Int)):∀ n,WK (tH s ls n)
 |0=>fun j o hj=>by cases hj
 |n+1=>by
  unfold tH;split
  ·exact IT s ls n
  ·exact aQ (IT s ls n)
theorem aDr {n:Nat}{D:List Dt}{l:List Int}{c:Nat}(h1:l.length≤n)(h2:l.length≤1000000)(h3:XP D l=true)(h4:aA8 D=true):GN n D l [] c=some (true,qE D n l):=by
 have h3:fK (.dirs D) l=true:=h3;have h4:fG (.dirs D)=true:=h4;unfold GN;simp only [h1,h2,h3,h4,decide_true,Bool.and_self]
end Go.Aw
end
