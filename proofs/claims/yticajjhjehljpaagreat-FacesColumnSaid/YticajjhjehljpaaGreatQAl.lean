/-
  Parts of a proof. No condition.
-/
import Derived.Test.YticajjhjehljpaaGreatQAk
set_option linter.unusedSimpArgs false
set_option linter.unusedVariables false
noncomputable section
namespace Go.Aw
set_option maxRecDepth 100000
def bE (ls:List (List Int))(i:Nat):List Int:=ls.getD i []
theorem vF (ls:List (List Int)){s:Nat}(hs:s<ls.length)(x:List Int)(i:Nat):bE (ls.set s x) i=if i=s then x else bE ls i:=by
 unfold bE;rw [List.getD_eq_getElem?_getD,List.getD_eq_getElem?_getD,List.getElem?_set];by_cases h:s=i
 ·subst h;simp [hs]
 rw [if_neg h,if_neg (fun e=>h e.symm)]
def tN (s i:Nat):Nat:=if i=s then 7 else i+1000
def tV (q:Nat)(l:List Int):Value:=if l.length=0 then aM else .slice (some ⟨q,0,none⟩) l.length l.length
def tC (s:Nat)(ls:List (List Int)):List Value:=(List.range ls.length).map fun i=>tV (tN s i) (bE ls i)
theorem lE (s:Nat)(ls:List (List Int)):(tC s ls).length=ls.length:=by simp [tC]
theorem C0 {s:Nat}{ls:List (List Int)}{i:Nat}(hi:i<ls.length):(tC s ls)[i]? = some (tV (tN s i) (bE ls i)):=by
 unfold tC;rw [List.getElem?_map,List.getElem?_range hi];rfl
theorem GP {s:Nat}{ls:List (List Int)}{i o:Nat}(hi:i<ls.length)(ho:o=i*1):nth (tC s ls) o=some (tV (tN s i) (bE ls i)):=by
 rw [wR,ho,Nat.mul_one];exact C0 hi
theorem QF {cs:List Value}{i o:Nat}{v:Value}(ho:o=i)(hi:i<cs.length):eY cs o [v]=cs.set i v:=by
 subst ho;apply List.ext_getElem?;intro j;rw [OQ (by simp;omega),List.getElem?_set];by_cases e:o=j
 ·subst e;rw [if_pos ⟨Nat.le_refl _,by simp⟩,if_pos rfl,if_pos hi,Nat.sub_self];rfl
 rw [if_neg (by simp;omega),if_neg e]
def ob (L:List Int):bH:=.cells true false 1 (flat aR.fl L)
def tH (s:Nat)(ls:List (List Int)):Nat→Heap
 |0=>[]
 |n+1=>if n=s∨(bE ls n).length=0 then tH s ls n else (n+1000,ob (bE ls n))::tH s ls n
theorem B4 {s:Nat}{ls:List (List Int)}:∀ {n:Nat} {p:Nat × bH},p∈tH s ls n→∃ i,i<n∧i≠s∧(bE ls i).length≠0∧p=(i+1000,ob (bE ls i))
 |0,p,h=>by cases h
 |n+1,p,h=>by
  unfold tH at h;split at h
  ·obtain⟨i,h1,h2⟩:=B4 h;exact⟨i,by omega,h2⟩
  rename_i hc;rcases List.mem_cons.1 h with rfl|h
  ·exact⟨n,Nat.lt_succ_self n,fun e=>hc (.inl e),fun e=>hc (.inr e),rfl⟩
  obtain⟨i,h1,h2⟩:=B4 h;exact⟨i,by omega,h2⟩
theorem aU {α:Type}{k n:Nat}{v:α}{r:List (Nat × α)}(h:k≠n):look ((k,v)::r) n=look r n:=by
 rw [aB];split
 ·rename_i hb;exact absurd (beq_true hb) h
 rfl
theorem kO {s:Nat}{ls:List (List Int)}{i:Nat}(h1:i≠s)(h2:(bE ls i).length≠0):∀ {n:Nat},i<n→look (tH s ls n) (i+1000)=some (ob (bE ls i))
 |0,h=>by omega
 |n+1,h=>by
  unfold tH;by_cases e:i=n
  ·subst e;rw [if_neg (by rintro (e|e);exact h1 e;exact h2 e),aB,Nat.beq_refl]
  split
  ·exact kO h1 h2 (by omega)
  rw [aU (by omega)];exact kO h1 h2 (by omega)
theorem aEN {s:Nat}{ls:List (List Int)}{k n:Nat}(h:k<1000∨1000+n≤k):look (tH s ls n) k=none:=by
 cases hl:look (tH s ls n) k with
 |none=>rfl
 |some o =>
  obtain⟨i,h1,_,_,h2⟩:=B4 (aW hl);injection h2 with h2 _;omega
theorem aC3 {s:Nat}{ls:List (List Int)}:∀ {n:Nat},(∀ i,i<n→(bE ls i).length=0)→tH s ls n=[]
 |0,_=>rfl
 |n+1,h=>by
  unfold tH;rw [if_pos (.inr (h n (Nat.lt_succ_self n)))];exact aC3 fun i hi=>h i (by omega)
def YX (L:List Int):Heap:=if L.length=0 then [] else [(7,ob L)]
def fS (l:List Pt)(m:List Ed)(c1 c2:Nat)(n:Int)(k:Nat)(D:List Dt)(s:Nat)(ls:List (List Int)):Heap :=
 (6,.cells true false 5 (flat rP.fl D))::(5,.cells true false 1 (tC s ls))::(3,.cells true false 1 [.pointer (some ⟨4,0,none⟩)])::(4,.cells true false 1 (qB l.length m.length c1 c2 n (.slice (some ⟨6,0,none⟩) k k) (.slice (some ⟨5,0,none⟩) l.length l.length) aM)) ::
 (2,mY l.length m.length c1 c2 n)::(0,.cells false true dC.sz (flat dC.fl l))::(1,.cells false true dP.sz (flat dP.fl m))::(YX (bE ls s)++tH s ls ls.length)
def oW (k:Nat)(j:Int):List (Nat × Value):=[(3,.pointer (some ⟨3,0,none⟩)),(89,.slice (some ⟨6,0,none⟩) k k),(90,iv k),(91,iv j)]
theorem aEH {ρ:Nat→Nat}{q a b:Nat}:bJ ρ (.slice (some ⟨q,0,none⟩) a b)=.slice (some ⟨ρ q,0,none⟩) a b:=rfl
theorem GG {ρ:Nat→Nat}{q:Nat}{L:List Int}:bJ ρ (tV q L)=tV (ρ q) L:=by
 unfold tV;split
 ·rfl
 rfl
theorem aMm {q n:Nat}{L:List Int}(h:q<n):CC n (tV q L):=by
 unfold tV;split
 ·exact bY rfl
 exact⟨h,fun h=>by cases h⟩
theorem JK {s n:Nat}{ls:List (List Int)}(h7:7<n)(hn:ls.length+1000≤n):∀ v∈tC s ls,CC n v:=by
 intro v hv;unfold tC at hv;obtain⟨i,hi,rfl⟩:=List.mem_map.1 hv;have:=List.mem_range.1 hi;refine aMm ?_;unfold tN;split <;> omega
def rh2 (s s':Nat):Nat→Nat:=rn [(7,if s'=s then 2002 else s'+1000),(s+1000,2002)]
theorem JM (s s':Nat):rh2 s s' 7=if s'=s then 2002 else s'+1000:=rfl
theorem WO {s s' k:Nat}(h:k<7):rh2 s s' k=k:=by
 unfold rh2 rn;rw [aU (by omega),aU (by omega)];rfl
theorem CS {s s' i:Nat}:rh2 s s' (i+1000)=if i=s then 2002 else i+1000:=by
 unfold rh2 rn;rw [aU (by omega)];by_cases e:i=s
 ·rw [if_pos e,e,aB,Nat.beq_refl]
 rw [if_neg e,aU (by omega)];rfl
theorem aLU (s s' i:Nat)(hi:i=s'→s'≠s→i≠s):rh2 s s' (tN s' i)=if i=s then 2002 else i+1000:=by
 unfold tN;by_cases e:i=s'
 ·rw [if_pos e,JM];by_cases e2:s'=s
  ·rw [if_pos e2,if_pos (e.trans e2)]
  rw [if_neg e2,if_neg (hi e e2),e]
 rw [if_neg e,CS]
def Fx (v:Value):Prop:=(∃ q a b,q<7∧v=.slice (some ⟨q,0,none⟩) a b)∨(∃ q,q<7∧v=.pointer (some ⟨q,0,none⟩))∨gS v=true
theorem Fx.fL {ρ:Nat→Nat}(hρ:∀ k,k<7→ρ k=k){v:Value}(h:Fx v):bJ ρ v=v:=by
 rcases h with ⟨q,a,b,hq,rfl⟩|⟨q,hq,rfl⟩|h
 ·rw [aEH,hρ q hq]
 ·show Value.pointer (some ⟨ρ q,0,none⟩)=_;rw [hρ q hq]
 exact nU h
theorem Fx.nm {v:Value}{n:Nat}(hn:7≤n)(h:Fx v):CC n v:=by
 rcases h with ⟨q,a,b,hq,rfl⟩|⟨q,hq,rfl⟩|h
 ·exact⟨Nat.lt_of_lt_of_le hq hn,fun h=>by cases h⟩
 ·exact⟨Nat.lt_of_lt_of_le hq hn,rfl⟩
 exact bY h
theorem KO {ρ:Nat→Nat}(hρ:∀ k,k<7→ρ k=k){n:Nat}(hn:7≤n){wr g:Bool}{sz:Nat}{cs:List Value}(h:∀ v∈cs,Fx v):bT ρ n (.cells wr g sz cs) (.cells wr g sz cs):=by
 refine⟨rfl,rfl,rfl,?_,fun v hv=>(h v hv).nm hn⟩
 conv=>lhs;rw [← List.map_id cs]
 exact List.map_congr_left fun v hv=>((h v hv).fL hρ).symm
theorem L7 {α:Type}(E:El α)(l:List α):∀ v∈flat E.fl l,Fx v:=fun v hv=>.inr (.inr (aT (aC E l) hv))
theorem Z5 {q a b:Nat}(h:q<7):Fx (.slice (some ⟨q,0,none⟩) a b):=.inl ⟨q,a,b,h,rfl⟩
theorem aNT {q:Nat}(h:q<7):Fx (.pointer (some ⟨q,0,none⟩)):=.inr (.inl ⟨q,h,rfl⟩)
theorem aJW {v:Value}(h:gS v=true):Fx v:=.inr (.inr h)
def rU (l:List Pt)(m:List Ed)(c1 c2:Nat)(n:Int)(k:Nat)(D:List Dt):Heap :=
 [(6,.cells true false 5 (flat rP.fl D)),(3,.cells true false 1 [.pointer (some ⟨4,0,none⟩)]),(4,.cells true false 1 (qB l.length m.length c1 c2 n (.slice (some ⟨6,0,none⟩) k k) (.slice (some ⟨5,0,none⟩) l.length l.length) aM)),
 (2,mY l.length m.length c1 c2 n),(0,.cells false true dC.sz (flat dC.fl l)),(1,.cells false true dP.sz (flat dP.fl m))]
theorem yU {ρ:Nat→Nat}(hρ:∀ k,k<7→ρ k=k){N:Nat}(hN:7≤N){l:List Pt}{m:List Ed}{c1 c2:Nat}{n:Int}{k:Nat}{D:List Dt}:∀ p∈rU l m c1 c2 n k D,p.1<7∧p.1≠5∧bT ρ N p.2 p.2:=by
 unfold rU;refine List.forall_mem_cons.2 ⟨⟨Nat.le_of_ble_eq_true rfl,Nat.ne_of_beq_eq_false rfl,KO hρ hN (L7 _ _)⟩,List.forall_mem_cons.2 ⟨⟨Nat.le_of_ble_eq_true rfl,Nat.ne_of_beq_eq_false rfl,KO hρ hN ?_⟩,List.forall_mem_cons.2 ⟨⟨Nat.le_of_ble_eq_true rfl,Nat.ne_of_beq_eq_false rfl,KO hρ hN ?_⟩,List.forall_mem_cons.2 ⟨⟨Nat.le_of_ble_eq_true rfl,Nat.ne_of_beq_eq_false rfl,KO hρ hN ?_⟩,List.forall_mem_cons.2 ⟨⟨Nat.le_of_ble_eq_true rfl,Nat.ne_of_beq_eq_false rfl,KO hρ hN (L7 _ _)⟩,List.forall_mem_cons.2 ⟨⟨Nat.le_of_ble_eq_true rfl,Nat.ne_of_beq_eq_false rfl,KO hρ hN (L7 _ _)⟩,fun _ h=>(by cases h)⟩⟩⟩⟩⟩⟩
 ·exact List.forall_mem_cons.2 ⟨aNT (by decide),fun _ h=>(by cases h)⟩
 ·exact List.forall_mem_cons.2 ⟨Z5 (by decide),List.forall_mem_cons.2 ⟨Z5 (by decide),List.forall_mem_cons.2 ⟨aJW rfl,List.forall_mem_cons.2 ⟨Z5 (by decide),List.forall_mem_cons.2 ⟨Z5 (by decide),List.forall_mem_cons.2 ⟨aJW rfl,fun _ h=>(by cases h)⟩⟩⟩⟩⟩⟩
 exact List.forall_mem_cons.2 ⟨Z5 (by decide),List.forall_mem_cons.2 ⟨Z5 (by decide),List.forall_mem_cons.2 ⟨aJW rfl,fun _ h=>(by cases h)⟩⟩⟩
theorem uU {l:List Pt}{m:List Ed}{c1 c2:Nat}{n:Int}{k:Nat}{D:List Dt}{s:Nat}{ls:List (List Int)}{p:Nat × bH}(h:p∈fS l m c1 c2 n k D s ls) :
  p∈rU l m c1 c2 n k D∨p=(5,.cells true false 1 (tC s ls))∨((bE ls s).length≠0∧p=(7,ob (bE ls s)))∨∃ i,i<ls.length∧i≠s∧(bE ls i).length≠0∧p=(i+1000,ob (bE ls i)):=by
 unfold fS at h;unfold rU;simp only [List.mem_cons,List.mem_append,List.not_mem_nil,or_false] at h ⊢;rcases h with h|h|h|h|h|h|h|h|h
 ·exact .inl (.inl h)
 ·exact .inr (.inl h)
 ·exact .inl (.inr (.inl h))
 ·exact .inl (.inr (.inr (.inl h)))
 ·exact .inl (.inr (.inr (.inr (.inl h))))
 ·exact .inl (.inr (.inr (.inr (.inr (.inl h)))))
 ·exact .inl (.inr (.inr (.inr (.inr (.inr h)))))
 ·unfold YX at h;split at h
  ·cases h
  rename_i hc;exact .inr (.inr (.inl ⟨hc,by simpa using h⟩))
 obtain⟨i,h1,h2,h3,h4⟩:=B4 h;exact .inr (.inr (.inr ⟨i,h1,h2,h3,h4⟩))
theorem BD {ρ:Nat→Nat}{n:Nat}{L:List Int}:bT ρ n (ob L) (ob L):=aG (aC _ _)
theorem G4 {ρ:Nat→Nat}{s':Nat}{ls':List (List Int)}{cs:List Value}(hl:cs.length=ls'.length)(h:∀ i,i<ls'.length→cs[i]? = some (tV (ρ (tN s' i)) (bE ls' i))):cs=(tC s' ls').map (bJ ρ):=by
 apply List.ext_getElem?;intro i;by_cases hi:i<ls'.length
 ·rw [h i hi,List.getElem?_map,C0 hi];simp only [Option.map_some,GG]
 rw [List.getElem?_eq_none (by omega),List.getElem?_eq_none (by rw [List.length_map,lE];omega)]
section
variable {l:List Pt}{m:List Ed}{c1 c2:Nat}{n:Int}{k:Nat}{D:List Dt}{s s' q:Nat}{ls:List (List Int)}{x j:Int}{e:List (Nat × Value)}{h:Heap}{nx:Nat}{I:KS}
theorem aCd {ρ:Nat→Nat}(hρ:∀ k,k<7→ρ k=k)(he:∀ p∈oW k j,look e p.1=some p.2):∀ t v,look (oW k j) t=some v→look e t=some (fL ρ v)∧x6 2000 v:=by
 intro t v hv;have hm:=aW hv;have h1:=he _ hm;unfold oW at hm;simp only [List.mem_cons,List.not_mem_nil,or_false] at hm;rw [h1];rcases hm with hm|hm|hm|hm <;> (injection hm with _ hm;subst hm)
 ·exact⟨by show some (Value.pointer (some ⟨3,0,none⟩))=some (Value.pointer (some ⟨ρ 3,0,none⟩));rw [hρ 3 (by decide)],by decide,rfl⟩
 ·exact⟨by show some (Value.slice (some ⟨6,0,none⟩) k k)=some (Value.slice (some ⟨ρ 6,0,none⟩) k k);rw [hρ 6 (by decide)],by decide,fun h=>by cases h⟩
 ·exact⟨by rw [fL,gU rfl],bU rfl⟩
 exact⟨by rw [fL,gU rfl],bU rfl⟩
theorem aHg (hs:s<ls.length)(hn:ls.length≤1000)(hI:I (oW k j) (fS l m c1 c2 n k D s' (ls.set s (bE ls s++[x]))) 2000)(he:∀ p∈oW k j,look e p.1=some p.2)
  (hb:∀ p∈rU l m c1 c2 n k D,look h p.1=some p.2) (hq:q=(bE ls s).length+1) (h5:look h 5=some (.cells true false 1 ((tC s ls).set s (.slice (some ⟨2002,0,none⟩) q q))))
  (h2:look h 2002=some (ob (bE ls s++[x]))) (ht:∀ i,i<ls.length→i≠s→(bE ls i).length≠0→look h (i+1000)=some (ob (bE ls i))):r5 2 I e h nx:=by
 have hat:∀ i,bE (ls.set s (bE ls s++[x])) i=if i=s then bE ls s++[x] else bE ls i:=vF ls hs _
 have hl:(ls.set s (bE ls s++[x])).length=ls.length:=List.length_set;have hρ:∀ k,k<7→rh2 s s' k=k:=fun k hk=>WO hk;generalize ls.set s (bE ls s++[x])=ls' at hI hat hl;refine⟨oW k j,fS l m c1 c2 n k D s' ls',2000,rh2 s s',hI,aCd hρ he,?_,?_,fun k hk=>WO (by omega),by omega⟩
 ·intro k' o hk;rcases uU (aW hk) with hm|hm|⟨h7,hm⟩|⟨i,h1,h3,h4,hm⟩
  ·obtain⟨a1,_,a2⟩:=yU hρ (N:=2000) (by omega) _ hm;simp only at a1 a2;exact⟨by omega,o,by rw [hρ k' a1];exact hb _ hm,a2⟩
  ·injection hm with e1 e2;subst e1 e2;refine⟨by omega,.cells true false 1 ((tC s ls).set s (.slice (some ⟨2002,0,none⟩) q q)),by rw [hρ 5 (by omega)];exact h5,rfl,rfl,rfl,G4 (by rw [List.length_set,lE,hl]) fun i hi=>?_,JK (by omega) (by omega)⟩;rw [hl] at hi;rw [aLU s s' i (fun e1 e2 e3=>e2 (e1.symm.trans e3)),List.getElem?_set,hat];by_cases e1:s=i
   ·subst e1;rw [if_pos rfl,if_pos rfl,if_pos rfl,if_pos (by rw [lE];exact hi)];unfold tV;rw [if_neg (by simp),List.length_append,hq];rfl
   rw [if_neg e1,if_neg (fun e=>e1 e.symm),if_neg (fun e=>e1 e.symm),C0 hi];unfold tN;rw [if_neg (fun e=>e1 e.symm)]
  ·injection hm with e1 e2;subst e1 e2;rw [JM,hat];rw [hat] at h7;by_cases e1:s'=s
   ·rw [if_pos e1,if_pos e1];exact⟨by omega,_,h2,BD⟩
   rw [if_neg e1,if_neg e1];rw [if_neg e1] at h7;have hs':s'<ls.length:=by
    refine Decidable.byContradiction fun hc=>h7 ?_;unfold bE;rw [List.getD_eq_getElem?_getD,List.getElem?_eq_none (by omega)];rfl
   exact⟨by omega,_,ht s' hs' e1 h7,BD⟩
  injection hm with e1 e2;subst e1 e2;rw [hl] at h1;rw [CS,hat];rw [hat] at h4;by_cases e1:i=s
  ·rw [if_pos e1,if_pos e1];exact⟨by omega,_,h2,BD⟩
  rw [if_neg e1,if_neg e1];rw [if_neg e1] at h4;exact⟨by omega,_,ht i h1 e1 h4,BD⟩
 have hc:∀ {k' o},look (fS l m c1 c2 n k D s' ls') k'=some o→k'<7∨(k'=7∧(s'≠s→s'<ls.length))∨∃ i,i<ls.length∧i≠s'∧k'=i+1000:=by
  intro k' o hk;rcases uU (aW hk) with hm|hm|⟨h7,hm⟩|⟨i,h1,h3,h4,hm⟩
  ·exact .inl (yU hρ (N:=2000) (by omega) _ hm).1
  ·injection hm with e1 e2;exact .inl (by omega)
  ·injection hm with e1 e2;refine .inr (.inl ⟨e1,fun e2=>Decidable.byContradiction fun hc=>h7 ?_⟩);rw [hat,if_neg e2];unfold bE;rw [List.getD_eq_getElem?_getD,List.getElem?_eq_none (by omega)];rfl
  injection hm with e1 e2;exact .inr (.inr ⟨i,by omega,h3,e1⟩)
 intro k1 k2 o1 o2 hk1 hk2 heq;rcases hc hk1 with a1|⟨a1,a2⟩|⟨i1,a1,a2,a3⟩ <;> rcases hc hk2 with b1|⟨b1,b2⟩|⟨i2,b1,b2,b3⟩
 ·rw [hρ _ a1,hρ _ b1] at heq;exact heq
 ·rw [hρ _ a1,b1,JM] at heq;split at heq <;> omega
 ·rw [hρ _ a1,b3,CS] at heq;split at heq <;> omega
 ·rw [hρ _ b1,a1,JM] at heq;split at heq <;> omega
 ·omega
 ·rw [a1,b3,JM,CS] at heq;split at heq <;> split at heq <;> omega
 ·rw [hρ _ b1,a3,CS] at heq;split at heq <;> omega
 ·rw [b1,a3,JM,CS] at heq;split at heq <;> split at heq <;> omega
 rw [a3,b3,CS,CS] at heq;split at heq <;> split at heq <;> omega
end
theorem P7 {A B:List Dt}{i:Nat}(h:i<A.length):bL (A++B) i=bL A i:=by
 unfold bL;rw [List.getD_eq_getElem?_getD,List.getD_eq_getElem?_getD,List.getElem?_append_left h]
theorem QS {A B:List Dt}{i j:Nat}(h:i=A.length+j):bL (A++B) i=bL B j:=by
 unfold bL;rw [List.getD_eq_getElem?_getD,List.getD_eq_getElem?_getD,List.getElem?_append_right (by omega),show i - A.length=j by omega]
theorem GU (l:List Pt)(m:List Ed):∀ {N i:Nat},i<N→bL (aO l m N) (2*i)=dA l m i∧bL (aO l m N) (2*i+1)=dB l m i
 |0,i,h=>by omega
 |N+1,i,h=>by
  have hl:=a9 l m N;unfold aO;by_cases e:i=N
  ·subst e;rw [QS (j:=0) (by omega),QS (j:=1) (by omega)];exact⟨rfl,rfl⟩
  rw [P7 (by omega),P7 (by omega)];exact GU l m (by omega)
theorem jU {l:List Pt}{m:List Ed}{N i:Nat}(h:i<2*N):(i % 2=0∧bL (aO l m N) i=dA l m (i / 2))∨(i % 2=1∧bL (aO l m N) i=dB l m (i / 2)):=by
 have:=GU l m (N:=N) (i:=i / 2) (by omega);by_cases e:i % 2=0
 ·left;rw [show 2*(i / 2)=i by omega] at this;exact⟨e,this.1⟩
 right;rw [show 2*(i / 2)+1=i by omega] at this;exact⟨by omega,this.2⟩
theorem eM {l:List Pt}{m:List Ed}(hM:F7 l m=true){i:Nat}(h:i<2*m.length):0≤(bL (aO l m m.length) i).fr∧(bL (aO l m m.length) i).fr<l.length∧0≤(bL (aO l m m.length) i).tt∧(bL (aO l m m.length) i).tt<l.length∧(bL (aO l m m.length) i).no=i:=by
 have he:=tO hM (i:=i / 2) (by omega);rcases jU (l:=l) (m:=m) h with ⟨e,h1⟩|⟨e,h1⟩
 ·rw [h1];simp only [dA];omega
 rw [h1];simp only [dB];omega
theorem aBo {l:List Pt}{m:List Ed}{n:Int}(hok:cM l m n=true)(hM:F7 l m=true):aBI (aO l m m.length)=true:=by
 refine List.all_eq_true.2 fun d hd=>?_;obtain⟨i,hi,rfl⟩:=List.getElem_of_mem hd;rw [← pG hi];rw [a9] at hi;have he:=tO hM (i:=i / 2) (by omega);have pa:=mI hok (i:=(cN m (i / 2)).a.toNat) (by omega);have pb:=mI hok (i:=(cN m (i / 2)).b.toNat) (by omega);rcases jU (l:=l) (m:=m) hi with ⟨e,h1⟩|⟨e,h1⟩
 ·rw [h1];unfold wide;simp only [Bool.and_eq_true,decide_eq_true_eq];simp only [eE,dA,kA];omega
 rw [h1];unfold wide;simp only [Bool.and_eq_true,decide_eq_true_eq];simp only [eE,dB,kA];omega
def qL (nP:Nat)(D:List Dt):Nat→List (List Int)
 |0=>List.replicate nP []
 |j+1=>(qL nP D j).set (bL D j).fr.toNat (bE (qL nP D j) (bL D j).fr.toNat++[(bL D j).no])
theorem oE (nP:Nat)(D:List Dt):∀ j,(qL nP D j).length=nP
 |0=>List.length_replicate
 |j+1=>by unfold qL;rw [List.length_set];exact oE nP D j
theorem D1 (nP:Nat)(D:List Dt):∀ (j s:Nat),(∀ i,i<j→(bL D i).fr.toNat<nP)→(bE (qL nP D j) s).length≤j
 |0,s,_=>by
  show (bE (List.replicate nP []) s).length≤0;unfold bE;rw [List.getD_eq_getElem?_getD,List.getElem?_replicate];split <;> exact Nat.le_refl _
 |j+1,s,h=>by
  unfold qL;rw [vF _ (by rw [oE];exact h j (Nat.lt_succ_self j))];split
  ·rename_i e;have:=D1 nP D j (bL D j).fr.toNat fun i hi=>h i (by omega);rw [List.length_append,List.length_singleton];omega
  have:=D1 nP D j s fun i hi=>h i (by omega);omega
theorem bm1 {k:Nat}{X Y:Prop}(h:Y):(match (generalizing:=false) Nat.ble (k+1) k with|true=>X|false=>Y):=by
 cases hb:Nat.ble (k+1) k with
 |false=>exact h
 |true=>have:=Nat.le_of_ble_eq_true hb;omega
def sD (nP:Nat)(D:List Dt)(i:Nat):Nat:=if i<D.length then (bL D i).fr.toNat else nP
theorem DV {n i:Nat}:bE (List.replicate n []) i=[]:=by
 unfold bE;rw [List.getD_eq_getElem?_getD,List.getElem?_replicate];split <;> rfl
theorem aIL {n s:Nat}:tC s (List.replicate n [])=List.replicate n aM:=by
 apply List.ext_getElem?;intro i;by_cases hi:i<n
 ·rw [C0 (by rw [List.length_replicate];exact hi),List.getElem?_replicate,if_pos hi,DV];rfl
 rw [List.getElem?_eq_none (by rw [lE,List.length_replicate];omega),List.getElem?_eq_none (by rw [List.length_replicate];omega)]
theorem W3 (v:Value):∀ n,rep n [v]=List.replicate n v
 |0=>rfl
 |n+1=>by rw [List.replicate_succ,← W3 v n];rfl
theorem aFf {l:List Pt}{m:List Ed}{c1 c2:Nat}{n:Int}{k:Nat}{D:List Dt}{s:Nat}:fS l m c1 c2 n k D s (List.replicate l.length [])=y8 l m c1 c2 n k D:=by
 unfold fS y8;rw [aIL,DV,aC3 (fun i _=>by rw [DV];rfl),W3];rfl
def TU (D:List Dt)(s j:Nat):List Int:=((List.range j).filter fun i=>decide ((bL D i).fr.toNat=s)).map fun (i:Nat)=>(i:Int)
theorem ED {nP:Nat}{D:List Dt}:∀ (j:Nat),(∀ i,i<j→(bL D i).fr.toNat<nP∧(bL D i).no=i)→∀ s,bE (qL nP D j) s=TU D s j
 |0,_,s=>DV
 |j+1,h,s=>by
  have ih:=ED j fun i hi=>h i (by omega);have hj:=h j (Nat.lt_succ_self j);unfold qL;rw [vF _ (by rw [oE];exact hj.1),ih,ih];unfold TU;rw [List.range_succ,List.filter_append,List.map_append];by_cases e:s=(bL D j).fr.toNat
  ·rw [if_pos e,e,hj.2];congr 1;rw [List.filter_cons_of_pos (by simp)];rfl
  rw [if_neg e,List.filter_cons_of_neg (by simpa using fun h=>e h.symm)];simp
theorem NG {D:List Dt}{s j:Nat}{x:Int}(h:x∈TU D s j):∃ i,i<j∧x=i∧(bL D i).fr.toNat=s:=by
 unfold TU at h;obtain⟨i,hi,rfl⟩:=List.mem_map.1 h;obtain⟨h1,h2⟩:=List.mem_filter.1 hi;exact⟨i,List.mem_range.1 h1,rfl,by simpa using h2⟩
theorem SU {D:List Dt}{s j i:Nat}(h:i<j)(hs:(bL D i).fr.toNat=s):(i:Int)∈TU D s j :=
 List.mem_map.2 ⟨i,List.mem_filter.2 ⟨List.mem_range.2 h,by simpa using hs⟩,rfl⟩
theorem yV (k:List Bool)(x:Nat)(i:Nat)(h:cV (k.set x true) i=true):i=x∨cV k i=true:=by
 unfold cV at h ⊢;rw [List.getD_eq_getElem?_getD,List.getElem?_set] at h;by_cases e:x=i
 ·exact .inl e.symm
 rw [if_neg e,← List.getD_eq_getElem?_getD] at h;exact .inr h
theorem J7 (m:List Ed)(s:List Bool):∀ (i p:Nat),cV (AD m s i) p=true→cV s p=true∨∃ e,e<i∧(p=(cN m e).a.toNat∨p=(cN m e).b.toNat)
 |0,p,h=>.inl h
 |i+1,p,h=>by
  unfold AD at h;rcases yV _ _ _ h with e|h
  ·exact .inr ⟨i,Nat.lt_succ_self i,.inr e⟩
  ·rcases yV _ _ _ h with e|h
   ·exact .inr ⟨i,Nat.lt_succ_self i,.inl e⟩
   ·rcases J7 m s i p h with h|⟨e,h1,h2⟩
    ·exact .inl h
    exact .inr ⟨e,by omega,h2⟩
theorem WQ {l:List Pt}{m:List Ed}{n:Int}(hok:cM l m n=true){s:Nat}(hs:s<l.length):(TU (aO l m m.length) s (2*m.length)).length≠0:=by
 simp only [cM,Bool.and_eq_true] at hok;have h1:=List.all_eq_true.1 hok.2.2.2;have h2:cV (AD m (List.replicate l.length false) m.length) s=true:=by
  rw [tB (by rw [EP,List.length_replicate];exact hs)];exact h1 _ (List.getElem_mem _)
 rcases J7 m _ m.length s h2 with h|⟨e,h3,h4⟩
 ·unfold cV at h;rw [List.getD_eq_getElem?_getD,List.getElem?_replicate] at h;split at h <;> cases h
 have hd:=GU l m h3;rcases h4 with h4|h4
 ·have:=SU (D:=aO l m m.length) (s:=s) (j:=2*m.length) (i:=2*e) (by omega) (by rw [hd.1,h4];rfl);intro h0;rw [List.eq_nil_of_length_eq_zero h0] at this;cases this
 have:=SU (D:=aO l m m.length) (s:=s) (j:=2*m.length) (i:=2*e+1) (by omega) (by rw [hd.2,h4];rfl);intro h0;rw [List.eq_nil_of_length_eq_zero h0] at this;cases this
theorem EZ (m:Nat):∀ (k:Nat) (L:List Int) (i j:Nat),(jE m k L i j).length=L.length
 |0,L,i,j=>rfl
 |k+1,L,i,j=>by
  unfold jE;split
  ·exact iH _ _ _ _
  split
  ·rw [EZ m k,iH]
  rw [EZ m k,iH]
theorem XP (L:List Int)(a:Nat):∀ t,(swU L a t).length=L.length
 |0=>rfl
 |t+1=>by unfold swU;rw [iI];exact XP L a t
theorem VA (L:List Int)(a:Nat):∀ t,(ZV L a t).length=L.length
 |0=>rfl
 |t+1=>by unfold ZV;rw [iI];exact VA L a t
theorem rL {c:Prop}[Decidable c]{a b:List Int}{n:Nat}(ha:a.length=n)(hb:b.length=n):(if c then a else b).length=n:=by
 split
 ·exact ha
 exact hb
theorem yO (D:CW):∀ (k:Nat) (L:List Int) (a m b:Nat),(eT D k L a m b).length=L.length
 |0,L,_,_,_=>rfl
 |k+1,L,a,m,b=>by
  unfold eT;refine rL (XP _ _ _) (rL (VA _ _ _) ?_);simp only;have h1:(if stM D L a m b<m∧m<(a+b) / 2+m - stM D L a m b then jE m (m - stM D L a m b+((a+b) / 2+m - stM D L a m b - m)) L (m - stM D L a m b) ((a+b) / 2+m - stM D L a m b - m) else L).length=L.length:=rL (EZ _ _ _ _ _) rfl;have h2:(if a<stM D L a m b∧stM D L a m b<(a+b) / 2 then eT D k (if stM D L a m b<m∧m<(a+b) / 2+m - stM D L a m b then jE m (m - stM D L a m b+((a+b) / 2+m - stM D L a m b - m)) L (m - stM D L a m b) ((a+b) / 2+m - stM D L a m b - m) else L) a (stM D L a m b) ((a+b) / 2) else (if stM D L a m b<m∧m<(a+b) / 2+m - stM D L a m b then jE m (m - stM D L a m b+((a+b) / 2+m - stM D L a m b - m)) L (m - stM D L a m b) ((a+b) / 2+m - stM D L a m b - m) else L)).length=L.length:=rL ((yO D k _ _ _ _).trans h1) h1;exact rL ((yO D k _ _ _ _).trans h2) h2
theorem N8 (D:CW)(n:Nat):∀ (k:Nat) (L:List Int) (a:Nat),(pH D n k L a).1.length=L.length
 |0,L,a=>rfl
 |k+1,L,a=>by
  unfold pH;split
  ·rw [N8 D n k,sX]
  rfl
theorem OO (D:CW)(f n bs:Nat):∀ (k:Nat) (L:List Int) (a:Nat),(rX D f n bs k L a).1.length=L.length
 |0,L,a=>rfl
 |k+1,L,a=>by
  unfold rX;split
  ·rw [OO D f n bs k,yO]
  rfl
theorem aBD (D:CW)(f n bs:Nat)(r:List Int × Nat):(xM D f n bs r).length=r.1.length:=by
 unfold xM;exact rL (yO _ _ _ _ _ _) rfl
theorem OA (D:CW)(f n:Nat):∀ (k:Nat) (L:List Int) (bs:Nat),(ES D f n k L bs).length=L.length
 |0,L,bs=>rfl
 |k+1,L,bs=>by
  unfold ES;refine rL ?_ rfl;rw [OA D f n k,aBD,OO]
theorem qH (D:CW)(f:Nat)(L:List Int):(oQ D f L).length=L.length:=by
 unfold oQ;rw [OA,sX,N8]
def srN (D:List Dt)(ls:List (List Int)):Nat→List (List Int)
 |0=>ls
 |i+1=>(srN D ls i).set i (oQ D 1000 (bE ls i))
theorem rG (D:List Dt)(ls:List (List Int)):∀ i,(srN D ls i).length=ls.length
 |0=>rfl
 |i+1=>by unfold srN;rw [List.length_set];exact rG D ls i
theorem SE (D:List Dt)(ls:List (List Int)):∀ {i:Nat},i≤ls.length→∀ s,bE (srN D ls i) s=if s<i then oQ D 1000 (bE ls s) else bE ls s
 |0,h,s=>by rw [if_neg (by omega)];rfl
 |i+1,h,s=>by
  have ih:=SE D ls (i:=i) (by omega) s;unfold srN;rw [vF _ (by rw [rG];omega),ih];by_cases e:s=i
  ·rw [if_pos e,if_pos (by omega),e]
  rw [if_neg e];by_cases e2:s<i
  ·rw [if_pos e2,if_pos (by omega)]
  rw [if_neg e2,if_neg (by omega)]
theorem aDB {s:Nat}{ls ls':List (List Int)}(hl:ls'.length=ls.length)(h:∀ i,i<ls.length→(bE ls' i).length=(bE ls i).length):tC s ls'=tC s ls:=by
 unfold tC;rw [hl];refine List.map_congr_left fun i hi=>?_;unfold tV;rw [h i (List.mem_range.1 hi)]
theorem RJ {l:List Pt}{m:List Ed}{c1 c2:Nat}{n:Int}{k:Nat}{D:List Dt}{s:Nat}{ls:List (List Int)}{e0 e:List (Nat × Value)}{h:Heap}{nx:Nat}{I:KS}(hn:ls.length≤1000)(hs:ls.length≤s)(hI:I e0 (fS l m c1 c2 n k D s ls) 2000)
  (he:∀ p∈e0,look e p.1=some (fL id p.2)∧x6 2000 p.2) (hb:∀ p∈rU l m c1 c2 n k D,look h p.1=some p.2) (h5:look h 5=some (.cells true false 1 (tC s ls)))
  (ht:∀ i,i<ls.length→(bE ls i).length≠0→look h (i+1000)=some (ob (bE ls i))):r5 2 I e h nx:=by
 refine⟨e0,fS l m c1 c2 n k D s ls,2000,id,hI,fun t v hv=>he _ (aW hv),fun k' o hk=>?_,fun k' k'' _ _ _ _ h=>h,fun _ _=>rfl,by omega⟩;rcases uU (aW hk) with hm|hm|⟨h7,hm⟩|⟨i,h1,h3,h4,hm⟩
 ·obtain⟨a1,_,a2⟩:=yU (ρ:=id) (fun _ _=>rfl) (N:=2000) (by omega) _ hm;simp only at a1 a2;exact⟨by omega,o,hb _ hm,a2⟩
 ·injection hm with e1 e2;subst e1 e2;refine⟨by omega,.cells true false 1 (tC s ls),h5,rfl,rfl,rfl,G4 (lE _ _) fun i hi=>C0 hi,JK (by omega) (by omega)⟩
 ·exfalso;refine h7 ?_;unfold bE;rw [List.getD_eq_getElem?_getD,List.getElem?_eq_none hs];rfl
 injection hm with e1 e2;subst e1 e2;exact⟨by omega,_,ht i h1 h4,BD⟩
def aAl (l:List Pt)(m:List Ed)(c1 c2:Nat)(n:Int)(k:Nat)(D:List Dt)(ls:List (List Int)):Heap :=
 (4,.cells true false 1 (qB l.length m.length c1 c2 n (.slice (some ⟨6,0,none⟩) k k) (.slice (some ⟨5,0,none⟩) l.length l.length) aM))::(6,.cells true false 5 (flat rP.fl D))::(5,.cells true false 1 (tC ls.length ls)) ::
 (0,.cells false true dC.sz (flat dC.fl l))::(1,.cells false true dP.sz (flat dP.fl m))::tH ls.length ls ls.length
theorem aB7 {l:List Pt}{m:List Ed}{c1 c2:Nat}{n:Int}{k:Nat}{D:List Dt}{s:Nat}{ls:List (List Int)}{h:Heap}{nx:Nat}(hn:ls.length≤1000)(hs:ls.length=s)(hh:h=fS l m c1 c2 n k D s ls):L5 (.pointer (some ⟨4,0,none⟩)) (aAl l m c1 c2 n k D ls) 2000 (.pointer (some ⟨4,0,none⟩)) h nx:=by
 subst hs hh;have hsub:∀ p,p∈aAl l m c1 c2 n k D ls→p∈fS l m c1 c2 n k D ls.length ls:=by
  intro p hp;unfold aAl at hp;unfold fS;simp only [List.mem_cons,List.mem_append] at hp ⊢;rcases hp with hp|hp|hp|hp|hp|hp
  ·exact .inr (.inr (.inr (.inl hp)))
  ·exact .inl hp
  ·exact .inr (.inl hp)
  ·exact .inr (.inr (.inr (.inr (.inr (.inl hp)))))
  ·exact .inr (.inr (.inr (.inr (.inr (.inr (.inl hp))))))
  exact .inr (.inr (.inr (.inr (.inr (.inr (.inr (.inr hp)))))))
 have h5:look (fS l m c1 c2 n k D ls.length ls) 5=some (.cells true false 1 (tC ls.length ls)):=rfl;have hb:∀ p∈rU l m c1 c2 n k D,look (fS l m c1 c2 n k D ls.length ls) p.1=some p.2:=by
  unfold rU;exact List.forall_mem_cons.2 ⟨rfl,List.forall_mem_cons.2 ⟨rfl,List.forall_mem_cons.2 ⟨rfl,List.forall_mem_cons.2 ⟨rfl,List.forall_mem_cons.2 ⟨rfl,List.forall_mem_cons.2 ⟨rfl,fun _ h=>(by cases h)⟩⟩⟩⟩⟩⟩
 have h7:(bE ls ls.length).length=0:=by
  unfold bE;rw [List.getD_eq_getElem?_getD,List.getElem?_eq_none (Nat.le_refl _)];rfl
 refine⟨id,fun t v hv=>?_,fun k' o hk=>?_,fun k' k'' _ _ _ _ h=>h,fun _ _=>rfl,by omega⟩
 ·have hm:=aW hv;simp only [List.mem_cons,List.not_mem_nil,or_false] at hm;injection hm with e1 e2;subst e1 e2;exact⟨rfl,Nat.le_of_ble_eq_true rfl,rfl⟩
 ·rcases uU (hsub _ (aW hk)) with hm|hm|⟨h8,hm⟩|⟨i,h1,h3,h4,hm⟩
  ·obtain⟨a1,_,a2⟩:=yU (ρ:=id) (fun _ _=>rfl) (N:=2000) (by omega) _ hm;simp only at a1 a2;exact⟨by omega,o,hb _ hm,a2⟩
  ·injection hm with e1 e2;subst e1 e2;refine⟨by omega,.cells true false 1 (tC ls.length ls),h5,rfl,rfl,rfl,G4 (lE _ _) fun i hi=>C0 hi,JK (by omega) (by omega)⟩
  ·exact absurd h7 h8
  injection hm with e1 e2;subst e1 e2;refine⟨by omega,_,?_,BD⟩;unfold fS
  repeat rw [aU (by omega)]
  rw [show YX (bE ls ls.length)=[] from if_pos h7];exact kO h3 h4 h1
theorem lQ {ls:List (List Int)}{s:Nat}(h:ls.length≤s):YX (bE ls s)=[]:=by
 unfold bE;rw [List.getD_eq_getElem?_getD,List.getElem?_eq_none h];rfl
def outs (l:List Pt)(m:List Ed):List (List Int):=srN (aO l m m.length) (qL l.length (aO l m m.length) (2*m.length)) l.length
theorem eZ (l:List Pt)(m:List Ed):(outs l m).length=l.length:=by unfold outs;rw [rG,oE]
theorem LW (s:Nat)(ls:List (List Int)):∀ n,SQ (tH s ls n)
 |0=>fun j o hj=>by cases hj
 |n+1=>by
  unfold tH;split
  ·exact LW s ls n
  exact bQ (LW s ls n)
theorem aFX {n:Nat}{D:List Dt}{l:List Int}{c:Nat}(h1:l.length≤n)(h2:l.length≤1000000)(h3:inR D l=true)(h4:aBI D=true):HX n D l [] c=some (true,oQ D n l):=by
 have h3:pT (.dirs D) l=true:=h3;have h4:oS (.dirs D)=true:=h4;unfold HX;simp only [h1,h2,h3,h4,decide_true,Bool.and_self]
set_option maxHeartbeats 4000000
def HR (N:Nat)(j:Int):List (Nat × Value):=[(3,.pointer (some ⟨3,0,none⟩)),(118,.slice (some ⟨5,0,none⟩) N N),(119,iv N),(120,iv j)]
theorem aNH (l:List Pt)(m:List Ed)(n:Int)(c1 c2:Nat)(hok:cM l m n=true):body [(104,RQ (HX 1000))] 81 [l8 l.length m.length c1 c2 n] (bR dC dP l m) 2 (fun v h nx=>L5 (.pointer (some ⟨4,0,none⟩)) (aAl l m c1 c2 n (2*m.length) (aO l m m.length) (outs l m)) 2000 v h nx):=by
 have hsz:l.length≤400∧3≤m.length∧m.length≤400:=by
  simp only [cM,szB,Bool.and_eq_true,decide_eq_true_eq] at hok;omega
 obtain⟨hl,hm3,hm⟩:=hsz;have hM:F7 l m=true:=by
  simp only [cM,Bool.and_eq_true] at hok;exact TP (by omega) (by omega) (fun i hi=>dU hok.2.1 hi) (fun i hi=>dU hok.2.2.1 hi)
 (conv=>whnf);refine⟨aL1 l m n c1 c2,aGr aKg uR (aAh l m n c1 c2 hl).h,?_⟩;rintro e h nx ⟨rfl,rfl,rfl⟩;unfold O8 rV bR;(conv=>whnf);refine⟨fun q e h nx=>∃ (i:Nat) (j:Int),j=i∧i≤m.length∧q=m.length - i∧e=zI m c2 j∧((i=0∧h=rV l m c1 c2 n∧nx=6)∨(0<i∧(∃ k,k=2*i∧h=y8 l m c1 c2 n k (aO l m i))∧nx=7)),⟨m.length,?_⟩,?_⟩
 ·refine cZ (e0:=zI m c2 0) (h0:=rV l m c1 c2 n) (n0:=6) ⟨0,0,rfl,Nat.zero_le _,rfl,rfl,.inl ⟨rfl,rfl,rfl⟩⟩ ?_ ?_ (by decide)
  ·unfold zI;((repeat' refine iE rfl rfl ?_);exact iN)
  unfold rV mY bR qB aM;refine List.forall_mem_cons.2 ⟨⟨Nat.le_of_ble_eq_true rfl,_,rfl,aG (SD _)⟩,?_⟩;((repeat'(first|refine iF rfl rfl ?_|refine iC rfl rfl rfl ?_|refine iJ rfl rfl rfl rfl ?_));exact iN)
 rintro q e h nx ⟨i,j,hj,hi,rfl,rfl,⟨hi0,rfl,rfl⟩|⟨hip,⟨k,hk,rfl⟩,rfl⟩⟩
 ·subst hi0;unfold zI rV mY bR qB;((conv=>whnf);apply bm<;>intro h1);rotate_left
  ·exfalso;simp [aA,aF] at h1;omega
  have he:=tO hM (i:=0) (by omega);have pa:=mI hok (i:=(cN m 0).a.toNat) (by omega);have pb:=mI hok (i:=(cN m 0).b.toNat) (by omega)
  repeat' first
   |(((conv=>whnf);apply bm<;>intro g))
   |((conv=>whnf)
     refine JA (ZI m (i:=0) (by omega) ?_) ?_
     ·show _+Int.toNat j*5=_;omega)
   |((conv=>whnf)
     refine JA (vY l (i:=(cN m 0).a.toNat) (by omega) ?_) ?_
     ·show _+Int.toNat (cN m 0).a*2=_;omega)
   |((conv=>whnf)
     refine JA (vY l (i:=(cN m 0).b.toNat) (by omega) ?_) ?_
     ·show _+Int.toNat (cN m 0).b*2=_;omega)
  all_goals first
   |(exfalso;simp [aA,aF,aH] at g;omega)
   |(exfalso;simp [aA,aF] at g;rw [g] at hm3;simp at hm3)
   |skip
  (conv=>whnf);refine⟨m.length - 1,by omega,?_⟩;refine yI (e0:=zI m c2 (j+1)) (h0:=y8 l m c1 c2 n 2 (aO l m 1)) (n0:=7) [(6,10)] ⟨1,_,by omega,by omega,rfl,rfl,.inr ⟨Nat.one_pos,⟨2,rfl,rfl⟩,rfl⟩⟩ ?_ ?_ ?_ (by decide) (by decide)
  ·unfold zI;((repeat' refine iE rfl rfl ?_);exact iN)
  ·unfold y8 mY bR qB;refine List.forall_mem_cons.2 ⟨⟨Nat.le_of_ble_eq_true rfl,_,rfl,bW (aC _ _) (by subst hj;rfl)⟩,List.forall_mem_cons.2 ⟨⟨Nat.le_of_ble_eq_true rfl,_,rfl,aG (SD _)⟩,?_⟩⟩;((repeat'(first|refine iF rfl rfl ?_|refine iC rfl rfl rfl ?_|refine iJ rfl rfl rfl rfl ?_));exact iN)
  show ∀ k∈[6,5,3,4,2,0,1],∀ k'∈[6,5,3,4,2,0,1],_;decide
 have hdl:=a9 l m i;generalize hD:aO l m i=D at hdl;unfold zI y8 mY bR qB;((conv=>whnf);apply bm<;>intro h1)
 ·have hlt:i<m.length:=(by simp [aA,aF] at h1;omega);have he:=tO hM (i:=i) (by omega);have pa:=mI hok (i:=(cN m i).a.toNat) (by omega);have pb:=mI hok (i:=(cN m i).b.toNat) (by omega)
  repeat' first
   |((conv=>whnf)
     refine bm2 (k:=k) ?_)
   |(((conv=>whnf);apply bm<;>intro g))
   |((conv=>whnf)
     refine JA (ZI m (i:=i) (by omega) ?_) ?_
     ·show _+Int.toNat j*5=_;omega)
   |((conv=>whnf)
     refine JA (vY l (i:=(cN m i).a.toNat) (by omega) ?_) ?_
     ·show _+Int.toNat (cN m i).a*2=_;omega)
   |((conv=>whnf)
     refine JA (vY l (i:=(cN m i).b.toNat) (by omega) ?_) ?_
     ·show _+Int.toNat (cN m i).b*2=_;omega)
  all_goals first
   |(exfalso;simp [aA,aF,aH] at g;omega)
   |(exfalso;simp [aA,aF] at g;rw [g] at hm3;simp at hm3)
   |skip
  ·(conv=>whnf);refine⟨m.length - (i+1),by omega,?_⟩;refine yI (e0:=zI m c2 (j+1)) (h0:=y8 l m c1 c2 n (k+2) (aO l m (i+1))) (n0:=7) [(6,11)] ⟨i+1,_,by omega,by omega,rfl,rfl,.inr ⟨by omega,⟨k+2,by omega,rfl⟩,rfl⟩⟩ ?_ ?_ ?_ (by decide) (by decide)
   ·unfold zI;((repeat' refine iE rfl rfl ?_);exact iN)
   ·unfold y8 mY bR qB;refine List.forall_mem_cons.2 ⟨⟨Nat.le_of_ble_eq_true rfl,_,rfl,bW (aC _ _) ?_⟩,List.forall_mem_cons.2 ⟨⟨Nat.le_of_ble_eq_true rfl,_,rfl,aG (SD _)⟩,?_⟩⟩
    ·rw [aO,hD];have hg:=TY rP D (dA l m i) (dB l m i) (n:=k) (by omega);rw [← hg];unfold dA dB;rw [← hj];rfl
    ((repeat'(first|refine iF rfl rfl ?_|refine iC rfl rfl rfl ?_|refine iJ rfl rfl rfl rfl ?_));exact iN)
   show ∀ k∈[6,5,3,4,2,0,1],∀ k'∈[6,5,3,4,2,0,1],_;decide
  exact aF8 (by rw [cJ,hdl,hk];rfl) (by omega) g
 have hge:i=m.length:=(by simp [aA,aF] at h1;omega);have hDe:D=aO l m m.length:=(by rw [← hD,hge]);have hDk:D.length=k:=(by omega);clear hD hdl hip;(conv=>whnf);refine⟨fun q e h nx=>∃ (i:Nat) (j:Int),j=i∧i≤k∧q=k - i∧e=oW k j∧h=fS l m c1 c2 n k D (sD l.length D i) (qL l.length D i)∧nx=2000,⟨k,?_⟩,?_⟩
 ·refine cZ (e0:=oW k 0) (h0:=fS l m c1 c2 n k D (sD l.length D 0) (qL l.length D 0)) (n0:=2000) ⟨0,0,rfl,Nat.zero_le _,rfl,rfl,rfl,rfl⟩ ?_ ?_ (by decide)
  ·unfold oW;((repeat' refine iE rfl rfl ?_);exact iN)
  rw [show qL l.length D 0=List.replicate l.length [] from rfl,aFf];unfold y8 mY bR qB;refine List.forall_mem_cons.2 ⟨⟨Nat.le_of_ble_eq_true rfl,_,rfl,aG (aC _ _)⟩,List.forall_mem_cons.2 ⟨⟨Nat.le_of_ble_eq_true rfl,_,rfl,aG (SD _)⟩,?_⟩⟩;((repeat'(first|refine iF rfl rfl ?_|refine iC rfl rfl rfl ?_|refine iJ rfl rfl rfl rfl ?_));exact iN)
 rintro q e h nx ⟨i,j,hj,hi,rfl,rfl,rfl,rfl⟩;by_cases hlt:i<k
 ·have hf:=eM (l:=l) hM (i:=i) (by omega);rw [← hDe] at hf;have hol:=oE l.length D i;have hle:=D1 l.length D i (bL D i).fr.toNat fun i' hi'=>by
   have:=(eM (l:=l) hM (i:=i') (by omega));rw [← hDe] at this;omega
  have hnx:qL l.length D (i+1)=(qL l.length D i).set (bL D i).fr.toNat (bE (qL l.length D i) (bL D i).fr.toNat++[(bL D i).no]):=rfl;rw [show sD l.length D i=(bL D i).fr.toNat from if_pos (by omega)];generalize qL l.length D i=ls at hol hnx hle ⊢;generalize hs:(bL D i).fr.toNat=s at hnx hle ⊢;by_cases h0:(bE ls s).length=0
  ·have ho7:YX (bE ls s)=[]:=if_pos h0;have hvv:tV (tN s s) (bE ls s)=aM:=if_pos h0;have key:∀ o,o=s*1→nth (tC s ls) o=some aM:=fun o ho=>(by rw [GP (by omega) ho,hvv]);unfold oW fS mY qB;rw [ho7]
   repeat' first
    |(((conv=>whnf);apply bm<;>intro g))
    |((conv=>whnf)
      refine JA (aGX D (i:=i) (by omega) ?_) ?_
      ·show _+Int.toNat j*5=_;omega)
    |((conv=>whnf)
      refine kW (key _ ?_) ?_
      ·show _+Int.toNat (bL D i).fr*1=_;omega)
   all_goals first
    |(exfalso;simp [aA,aF,aH] at g;omega)
    |(exfalso;simp [aA,aF] at g;rw [g] at hm3;simp at hm3)
    |(exfalso
      have hb:Nat.ble (0+Int.toNat (bL D i).fr*1+1) (tC s ls).length=true:=Nat.ble_eq_true_of_le (by rw [lE];omega);exact Bool.false_ne_true (g.symm.trans hb))
    |skip
   (conv=>whnf);refine⟨k - (i+1),by omega,?_⟩;refine aHg (s:=s) (s':=sD l.length D (i+1)) (q:=1) (ls:=ls) (x:=(bL D i).no) (j:=j+1) (D:=D) (k:=k) (l:=l) (m:=m) (c1:=c1) (c2:=c2) (n:=n) (by omega) (by omega) ⟨i+1,j+1,by omega,by omega,rfl,rfl,congrArg (fS l m c1 c2 n k D (sD l.length D (i+1))) hnx.symm,rfl⟩ ?_ ?_ (by omega) ?_ ?_ ?_
   ·unfold oW;exact List.forall_mem_cons.2 ⟨rfl,List.forall_mem_cons.2 ⟨rfl,List.forall_mem_cons.2 ⟨rfl,List.forall_mem_cons.2 ⟨rfl,fun _ h=>(by cases h)⟩⟩⟩⟩
   ·unfold rU mY qB;exact List.forall_mem_cons.2 ⟨rfl,List.forall_mem_cons.2 ⟨rfl,List.forall_mem_cons.2 ⟨rfl,List.forall_mem_cons.2 ⟨rfl,List.forall_mem_cons.2 ⟨rfl,List.forall_mem_cons.2 ⟨rfl,fun _ h=>(by cases h)⟩⟩⟩⟩⟩⟩
   ·show some (bH.cells true false 1 (eY (tC s ls) (0+Int.toNat (bL D i).fr*1) [.slice (some ⟨2002,0,none⟩) 1 1]))=_;rw [QF (i:=s) (by omega) (by rw [lE];omega)]
   ·rw [List.eq_nil_of_length_eq_zero h0];rfl
   intro i1 a1 a2 a3
   repeat first
    |rw [kB _ _ (by omega)]
    |rw [iV _ _ (by omega)]
    |rw [aU (by omega)]
     |rw [dN,if_neg (by omega)]
   exact kO a2 a3 a1
  have ho7:YX (bE ls s)=[(7,.cells true false 1 (flat aR.fl (bE ls s)))]:=if_neg h0;generalize hq:(bE ls s).length=q at h0 hle;have hvv:tV (tN s s) (bE ls s)=.slice (some ⟨7,0,none⟩) q q:=(by rw [tV,if_neg (by omega),tN,if_pos rfl,hq]);have hqk:q≤1000:=(by omega);have key:∀ o,o=s*1→nth (tC s ls) o=some (.slice (some ⟨7,0,none⟩) q q):=fun o ho=>(by rw [GP (by omega) ho,hvv]);unfold oW fS mY qB;rw [ho7]
  repeat' first
   |((conv=>whnf)
     refine bm1 (k:=q) ?_)
   |(((conv=>whnf);apply bm<;>intro g))
   |((conv=>whnf)
     refine JA (aGX D (i:=i) (by omega) ?_) ?_
     ·show _+Int.toNat j*5=_;omega)
   |((conv=>whnf)
     refine kW (key _ ?_) ?_
     ·show _+Int.toNat (bL D i).fr*1=_;omega)
  all_goals first
   |(exfalso;simp [aA,aF,aH] at g;omega)
   |(exfalso;simp [aA,aF] at g;rw [g] at hm3;simp at hm3)
   |(exfalso
     have hb:Nat.ble (0+Int.toNat (bL D i).fr*1+1) (tC s ls).length=true:=Nat.ble_eq_true_of_le (by rw [lE];omega);exact Bool.false_ne_true (g.symm.trans hb))
   |skip
  ·(conv=>whnf);refine⟨k - (i+1),by omega,?_⟩;refine aHg (s:=s) (s':=sD l.length D (i+1)) (q:=q+1) (ls:=ls) (x:=(bL D i).no) (j:=j+1) (D:=D) (k:=k) (l:=l) (m:=m) (c1:=c1) (c2:=c2) (n:=n) (by omega) (by omega) ⟨i+1,j+1,by omega,by omega,rfl,rfl,congrArg (fS l m c1 c2 n k D (sD l.length D (i+1))) hnx.symm,rfl⟩ ?_ ?_ (by omega) ?_ ?_ ?_
   ·unfold oW;exact List.forall_mem_cons.2 ⟨rfl,List.forall_mem_cons.2 ⟨rfl,List.forall_mem_cons.2 ⟨rfl,List.forall_mem_cons.2 ⟨rfl,fun _ h=>(by cases h)⟩⟩⟩⟩
   ·unfold rU mY qB;exact List.forall_mem_cons.2 ⟨rfl,List.forall_mem_cons.2 ⟨rfl,List.forall_mem_cons.2 ⟨rfl,List.forall_mem_cons.2 ⟨rfl,List.forall_mem_cons.2 ⟨rfl,List.forall_mem_cons.2 ⟨rfl,fun _ h=>(by cases h)⟩⟩⟩⟩⟩⟩
   ·show some (bH.cells true false 1 (eY (tC s ls) (0+Int.toNat (bL D i).fr*1) [.slice (some ⟨2002,0,none⟩) (q+1) (q+1)]))=_;rw [QF (i:=s) (by omega) (by rw [lE];omega)]
   ·have hg:=nQ aR (bE ls s) (bL D i).no (n:=q) hq.symm;unfold ob;rw [← hg];rfl
   intro i1 a1 a2 a3
   repeat first
    |rw [kB _ _ (by omega)]
    |rw [iV _ _ (by omega)]
    |rw [aU (by omega)]
    |rw [dN,if_neg (by omega)]
   show look ((7,_)::tH s ls ls.length) _=_;rw [aU (by omega)];exact kO a2 a3 a1
  exact xY (by rw [cJ,hq];rfl) (by omega) g
 have hik:i=k:=(by omega);subst hik;clear hlt hi;rw [show sD l.length D i=l.length from if_neg (by omega)];have hol:=oE l.length D i;have hfr:∀ i',i'<i→(bL D i').fr.toNat<l.length∧(bL D i').no=i':=fun i' hi'=>by
  have:=(eM (l:=l) hM (i:=i') (by omega));rw [← hDe] at this;omega
 have hout:∀ s,s<l.length→(bE (qL l.length D i) s).length≠0∧(bE (qL l.length D i) s).length≤1000∧inR D (bE (qL l.length D i) s)=true:=fun s hs=>by
  refine⟨?_,?_,?_⟩
  ·rw [ED i hfr s,hDe,show i=2*m.length by omega];exact WQ hok hs
  ·have:=D1 l.length D i s fun i' hi'=>(hfr i' hi').1;omega
  rw [ED i hfr s];refine List.all_eq_true.2 fun x hx=>?_;obtain⟨i',h1,rfl,_⟩:=NG hx;simp only [Bool.and_eq_true,decide_eq_true_eq];omega
 have hW:aBI D=true:=(by rw [hDe];exact aBo hok hM);generalize hlsE:qL l.length D i=ls at hol hout ⊢;unfold oW fS mY qB;((conv=>whnf);apply bm<;>intro h1)
 ·exfalso;simp [aA,aF] at h1;omega
 (conv=>whnf);refine⟨fun q e h nx=>∃ (t:Nat) (j:Int),j=t∧t≤l.length∧q=l.length - t∧e=HR l.length j∧h=fS l m c1 c2 n i D l.length (srN D ls t)∧nx=2000,⟨l.length,?_⟩,?_⟩
 ·refine RJ (e0:=HR l.length 0) (ls:=srN D ls 0) (by rw [rG];omega) (by rw [rG];omega) ⟨0,0,rfl,Nat.zero_le _,rfl,rfl,rfl,rfl⟩ ?_ ?_ rfl ?_
  ·unfold HR;((repeat' refine iE rfl rfl ?_);exact iN)
  ·unfold rU mY qB;exact List.forall_mem_cons.2 ⟨rfl,List.forall_mem_cons.2 ⟨rfl,List.forall_mem_cons.2 ⟨rfl,List.forall_mem_cons.2 ⟨rfl,List.forall_mem_cons.2 ⟨rfl,List.forall_mem_cons.2 ⟨rfl,fun _ h=>(by cases h)⟩⟩⟩⟩⟩⟩
  intro i1 a1 a2;rw [lQ (by omega)]
  repeat rw [aU (by omega)]
  exact kO (by have:=rG D ls 0;omega) a2 a1
 rintro q e h nx ⟨t,j,hj,ht,rfl,rfl,rfl,rfl⟩;have hsl:=rG D ls t;have hat:=SE D ls (i:=t) (by omega);have hnx:srN D ls (t+1)=(srN D ls t).set t (oQ D 1000 (bE ls t)):=rfl;generalize hls':srN D ls t=ls' at hsl hat hnx ⊢;by_cases hlt:t<l.length
 ·obtain⟨o1,o2,o3⟩:=hout t hlt;have hA:bE ls' t=bE ls t:=(by rw [hat,if_neg (by omega)]);generalize hq:(bE ls t).length=q at o1 o2;have key:∀ o,o=t*1→nth (tC l.length ls') o=some (.slice (some ⟨t+1000,0,none⟩) q q):=fun o ho=>by
   rw [GP (by omega) ho,tV,hA,if_neg (by omega),tN,if_neg (by omega),hq]
  have ho7:YX (bE ls' l.length)=[]:=lQ (by omega);unfold HR fS mY qB;rw [ho7]
  repeat' first
   |(((conv=>whnf);apply bm<;>intro g))
   |((conv=>whnf)
     refine kW (key _ ?_) ?_
     ·show _+Int.toNat j*1=_;omega)
  all_goals first
   |(exfalso;simp [aA,aF,aH] at g;omega)
   |skip
  (conv=>whnf);refine⟨t+1000,q,[],(3,0),bE ls t,.dirs D,by rw [hq];rfl,?_,?_,?_,?_⟩
  ·repeat rw [aU (by omega)]
   rw [← hA];exact kO (by omega) (by rw [hA,hq];exact o1) (by omega)
  ·exact bQ (bQ (bQ (bQ (bQ (bQ (bQ (LW _ _ _)))))))
  ·refine⟨4,6,0,1,true,false,1,[],true,false,1,[.slice (some ⟨5,0,none⟩) l.length l.length,aM],true,false,5,flat rP.fl D,l.length,c1,m.length,c2,n,i,?_,?_,?_,?_⟩
   ·rw [dN,if_neg (by omega)];rfl
   ·rw [dN,if_neg (by omega),hDk];rfl
   ·rw [dN,if_neg (by omega)];rfl
   exact List.take_length
  rw [aFX (by rw [hq];exact o2) (by omega) o3 hW];refine aJ rfl ?_;((conv=>whnf);apply bm<;>intro g2);rotate_left
  ·exfalso;simp [aA,aF,aH] at g2;omega
  (conv=>whnf);refine⟨l.length - (t+1),by omega,?_⟩;have hlen:∀ i1,(bE (ls'.set t (oQ D 1000 (bE ls t))) i1).length=(bE ls' i1).length:=fun i1=>by
   rw [vF _ (by omega)];split
   ·rename_i e;rw [qH,e,hA]
   rfl
  refine RJ (e0:=HR l.length (j+1)) (ls:=ls'.set t (oQ D 1000 (bE ls t))) (s:=l.length) (k:=i) (D:=D) (l:=l) (m:=m) (c1:=c1) (c2:=c2) (n:=n) (by rw [List.length_set];omega) (by rw [List.length_set];omega) ⟨t+1,j+1,by omega,by omega,rfl,rfl,congrArg (fS l m c1 c2 n i D l.length) hnx.symm,rfl⟩ ?_ ?_ ?_ ?_
  ·unfold HR;((repeat' refine iE rfl rfl ?_);exact iN)
  ·unfold rU mY qB;exact List.forall_mem_cons.2 ⟨rfl,List.forall_mem_cons.2 ⟨rfl,List.forall_mem_cons.2 ⟨rfl,List.forall_mem_cons.2 ⟨rfl,List.forall_mem_cons.2 ⟨rfl,List.forall_mem_cons.2 ⟨rfl,fun _ h=>(by cases h)⟩⟩⟩⟩⟩⟩
  ·rw [aDB (List.length_set) (fun i1 _=>hlen i1)];rfl
  intro i1 a1 a2;rw [List.length_set] at a1;rw [hlen] at a2;rw [vF _ (by omega)];by_cases e:i1=t
  ·rw [if_pos e,e,IS];rfl
  rw [if_neg e,kB _ _ (by omega)]
  repeat rw [aU (by omega)]
  exact kO (by omega) a2 a1
 unfold HR fS mY qB;((conv=>whnf);apply bm<;>intro h1)
 ·exfalso;simp [aA,aF] at h1;omega
 (conv=>whnf);have htt:t=l.length:=(by omega);subst htt;have hi2:i=2*m.length:=(by omega);refine aB7 (k:=2*m.length) (D:=aO l m m.length) (ls:=outs l m) (s:=l.length) (by rw [eZ];omega) (eZ l m) ?_;unfold outs;rw [← hDe,← hi2,hlsE,hls'];rfl
def pL:Value→Nat
 |.slice (some _) _ c=>c
 |_=>0
section
variable {α β:Type}(E:El α)(G:El β)
theorem aDj {h:Heap}{nx:Nat}{v:Value}{l:List α}(hl:oM E h v l):In [.slice (some ⟨0,0,none⟩) l.length (pL v)] [(0,.cells false true E.sz (flat E.fl l))] 1 [v] h nx:=by
 unfold oM at hl;split at hl
 ·rename_i n c;obtain⟨rfl,rfl,rfl⟩:=hl;exact T5 rfl true E.sz E.pos
 ·rename_i k o n c;obtain⟨rfl,wr,g,sz,cs,hk,hcs⟩:=hl;exact aBV rfl hk hcs (aC E l) true E.sz E.pos
 exact hl.elim
theorem M8 {p q:Value}{n:Int}{r:List Value}(hr:fN r=true){h:Heap}{nx:Nat}{l:List α}{m:List β}(hl:oM E h p l)(hm:oM G h q m) :
  In (l8 l.length m.length (pL p) (pL q) n::r) (bR E G l m) 2 (mapA p q n::r) h nx :=
 aCs hr (aAI rfl rfl (aDj (nx:=nx) E hl) (aDj (nx:=nx) G hm) ⟨_,_,rfl,aC E l⟩ ⟨_,_,rfl,aC G m⟩) ⟨_,_,_,rfl⟩ ⟨_,_,_,rfl⟩
end
theorem yT (s:Nat)(ls:List (List Int)):∀ n,gH (tH s ls n)=true
 |0=>rfl
 |n+1=>by
  unfold tH;split
  ·exact yT s ls n
  exact yT s ls n
theorem TE {l:List Pt}{m:List Ed}{c1 c2:Nat}{n:Int}{k:Nat}{D:List Dt}{ls:List (List Int)}:gH (aAl l m c1 c2 n k D ls)=true:=yT _ _ _
def aFx (l:List Pt)(m:List Ed)(c1 c2:Nat)(n:Int):Heap:=aAl l m c1 c2 n (2*m.length) (aO l m m.length) (outs l m)
def YF:Nat × XF:=(81,fun args h nx K=>∃ l m n p q,args=[mapA p q n]∧oM dC h p l∧oM dP h q m∧cM l m n=true∧K (.pointer (some ⟨nx+4,0,none⟩)) (app (oP nx (aFx l m (pL p) (pL q) n)) (eI h)) (nx+2000))
theorem aMg:dJ Go.Proofs.Tryz.prog YF.1 YF.2:=by
 refine (jD (S:=fun args0 h0 n0 v1 h1 j=>∃ l m n c1 c2,cM l m n=true∧args0=[l8 l.length m.length c1 c2 n]∧h0=bR dC dP l m∧n0=2∧v1=.pointer (some ⟨4,0,none⟩)∧h1=aFx l m c1 c2 n∧j=2000) (aK (xl:=[(104,RQ (HX 1000))]) (.cons (aDq 1000) .nil)) ?_).mono ?_ ?_
 ·rintro args0 h0 n0 v1 h1 j ⟨l,m,n,c1,c2,hok,rfl,rfl,rfl,rfl,rfl,rfl⟩;exact⟨TE,_,aNH l m n c1 c2 hok,fun v h nx e=>e⟩
 ·rintro args h nx K ⟨l,m,n,p,q,rfl,hl,hm,hok,hx⟩;exact⟨_,_,2,_,_,_,⟨l,m,n,pL p,pL q,hok,rfl,rfl,rfl,rfl,rfl,rfl⟩,M8 dC dP rfl hl hm,hx⟩
 rintro args h nx K ⟨l,m,n,p,q,rfl,hl,hm,hok,hx⟩;exact⟨_,_,_,hx,fun K' hk=>⟨l,m,n,p,q,rfl,hl,hm,hok,hk⟩⟩
def tD (x:Int):List Int→Nat→Int
 |[],_=>-1
 |b::r,i=>if x=b then i else tD x r (i+1)
def aJN (l:List Int):List Value→Option (Bool × Value)
 |[.int .i64 x]=>some (decide (l.length≤1000000),iv (tD x l 0))
 |_=>none
theorem aBj {l:List Int}{r:List Value}{v:Value}(hs:aJN l r=some (true,v)):∃ x,r=[iv x]∧l.length≤1000000∧v=iv (tD x l 0):=by
 unfold aJN at hs;split at hs
 ·rename_i x;injection hs with hs;injection hs with h1 h2;exact⟨x,rfl,by simpa using h1,h2.symm⟩
 ·cases hs
def Z3 (x:Int)(l:List Int)(c:Nat)(j:Int):List (Nat × Value):=[(0,.slice (some ⟨0,0,none⟩) l.length c),(1,iv x),(7,iv l.length),(8,iv j)]
def hIn (l:List Int):Heap:=[(0,.cells false true 1 (flat aR.fl l))]
def tM:Nat × XF:=(88,lX aR aJN)
theorem aKU:dJ Go.Proofs.Tryz.prog tM.1 tM.2:=CP aR (aK (xl:=[]) .nil) fun l r v hs=>by
 obtain⟨x,rfl,hlen,rfl⟩:=aBj hs;refine⟨rfl,rfl,fun c=>?_⟩;(conv=>whnf);refine⟨fun q e h nx=>∃ (i:Nat) (j:Int),j=i∧i≤l.length∧q=l.length - i∧tD x l 0=tD x (l.drop i) i∧e=Z3 x l c j∧h=hIn l∧nx=1,⟨l.length,?_⟩,?_⟩
 ·refine cZ (e0:=Z3 x l c 0) (h0:=hIn l) (n0:=1) ⟨0,0,rfl,Nat.zero_le _,rfl,rfl,rfl,rfl,rfl⟩ ?_ ?_ (by decide)
  ·unfold Z3;((repeat' refine iE rfl rfl ?_);exact iN)
  unfold hIn;((repeat'(first|refine iF rfl rfl ?_|refine iC rfl rfl rfl ?_|refine iJ rfl rfl rfl rfl ?_));exact iN)
 rintro q e h nx ⟨i,j,hj,hi,rfl,hb,rfl,rfl,rfl⟩;unfold Z3 hIn;((conv=>whnf);apply bm<;>intro h1);rotate_left
 ·have hge:l.length≤i:=(by simp [aA,aF] at h1;omega);(conv=>whnf);rw [hb,List.drop_eq_nil_of_le hge];rfl
 have hlt:i<l.length:=(by simp [aA,aF] at h1;omega);have hd:l.drop i=aE l i::l.drop (i+1):=(by rw [bX hlt];exact List.drop_eq_getElem_cons hlt);rw [hd,tD] at hb;((conv=>whnf);apply bm<;>intro h2);rotate_left
 ·exfalso;simp [aA,aF] at h2;omega
 (conv=>whnf);refine kW (iY l (i:=i) hlt ?_) ?_
 ·show _+Int.toNat j*1=_;omega
 ((conv=>whnf);apply bm<;>intro h3)
 ·have h3:x=aE l i:=(by simpa [aA,aF] using h3);(conv=>whnf);rw [hb,if_pos h3,hj]
 have h3:¬ x=aE l i:=(by simpa [aA,aF] using h3);((conv=>whnf);apply bm<;>intro h4)
 ·(conv=>whnf);refine⟨l.length - (i+1),by omega,?_⟩;refine cZ (e0:=Z3 x l c (j+1)) (h0:=hIn l) (n0:=1) ⟨i+1,j+1,by omega,hlt,rfl,by rw [hb,if_neg h3],rfl,rfl,rfl⟩ ?_ ?_ (by decide)
  ·unfold Z3;((repeat' refine iE rfl rfl ?_);exact iN)
  unfold hIn;((repeat'(first|refine iF rfl rfl ?_|refine iC rfl rfl rfl ?_|refine iJ rfl rfl rfl rfl ?_));exact iN)
 exfalso;simp [aA,aF,aH] at h4;omega
def fcV (k:Nat):Option (Nat × Nat)→Value
 |none=>aM
 |some (a,b)=>.slice (some ⟨k,0,none⟩) a b
theorem YB {ρ:Nat→Nat}{k:Nat}{o:Option (Nat × Nat)}:bJ ρ (fcV k o)=fcV (ρ k) o:=by
 cases o with
 |none=>rfl
 |some p=>rfl
theorem aC9 {k n:Nat}{o:Option (Nat × Nat)}(h:k<n):CC n (fcV k o):=by
 cases o with
 |none=>exact bY rfl
 |some p=>exact⟨h,fun h=>by cases h⟩
def IH (k0 k1 kd kt kf:Nat)(nP nE nD nL c1 c2:Nat)(n:Int)(fo:Option (Nat × Nat)):List Value :=
 [.slice (some ⟨k0,0,none⟩) nP c1,.slice (some ⟨k1,0,none⟩) nE c2,iv n,.slice (some ⟨kd,0,none⟩) nD nD,.slice (some ⟨kt,0,none⟩) nL nL,fcV kf fo]
structure wC (h:Heap) (p k0 k1 kd kt kf:Nat) (nm:Nat→Nat) (l:List Pt) (D:List Dt) (ls:List (List Int)) (nE c1 c2:Nat) (n:Int) (fo:Option (Nat × Nat)):Prop where
 st:∃ wr g sz,look h p=some (.cells wr g sz (IH k0 k1 kd kt kf l.length nE D.length ls.length c1 c2 n fo))
 pt:∃ wr g sz cs,look h k0=some (.cells wr g sz cs)∧cs.take (flat dC.fl l).length=flat dC.fl l
 da:∃ wr g sz cs,look h kd=some (.cells wr g sz cs)∧cs.take (flat rP.fl D).length=flat rP.fl D
 tb:∃ wr g sz,look h kt=some (.cells wr g sz ((List.range ls.length).map fun i=>tV (nm i) (bE ls i)))
 li:∀ i,i<ls.length→(bE ls i).length≠0→∃ wr g sz cs,look h (nm i)=some (.cells wr g sz cs)∧cs.take (flat aR.fl (bE ls i)).length=flat aR.fl (bE ls i)
def fK (l:List Pt)(D:List Dt)(ls:List (List Int))(nE c1 c2:Nat)(n:Int)(fo:Option (Nat × Nat))(s:Nat):Heap :=
 (0,.cells false false 1 (IH 4 5 1 2 6 l.length nE D.length ls.length c1 c2 n fo))::(1,.cells false true 5 (flat rP.fl D))::(2,.cells false false 1 (tC s ls))::(4,.cells false true 2 (flat dC.fl l))::(eI (YX (bE ls s))++eI (tH s ls ls.length))
def rhW (p k0 k1 kd kt kf k3:Nat)(nm:Nat→Nat)(s:Nat)(k:Nat):Nat :=
 if 1000≤k then nm (k - 1000) else if k=0 then p else if k=1 then kd else if k=2 then kt else if k=3 then k3 else if k=4 then k0 else if k=5 then k1 else if k=6 then kf else nm s
theorem aHs {p k0 k1 kd kt kf k3:Nat}{nm:Nat→Nat}{s i:Nat}:rhW p k0 k1 kd kt kf k3 nm s (tN s i)=nm i:=by
 unfold tN;split
 ·rename_i e;rw [e];rfl
 unfold rhW;rw [if_pos (by omega),Nat.add_sub_cancel]
theorem JQ {h:Heap}{k:Nat}{o:bH}(hm:(k,o)∈eI h):∃ o',(k,o')∈h∧o=o'.closed:=by
 induction h with
 |nil=>cases hm
 |cons x r ih =>
  obtain⟨j,q⟩:=x;unfold eI at hm;rcases List.mem_cons.1 hm with e|hm
  ·injection e with e1 e2;subst e1 e2;exact⟨q,.head _,rfl⟩
  obtain⟨o',h1,h2⟩:=ih hm;exact⟨o',.tail _ h1,h2⟩
theorem E0 {l:List Pt}{D:List Dt}{ls:List (List Int)}{nE c1 c2:Nat}{n:Int}{fo:Option (Nat × Nat)}{s k:Nat}{o:bH}(h:(k,o)∈fK l D ls nE c1 c2 n fo s) :
  (k=0∧o=.cells false false 1 (IH 4 5 1 2 6 l.length nE D.length ls.length c1 c2 n fo))∨(k=1∧o=.cells false true 5 (flat rP.fl D))∨(k=2∧o=.cells false false 1 (tC s ls))∨(k=4∧o=.cells false true 2 (flat dC.fl l)) ∨
  ∃ i,i<ls.length∧(bE ls i).length≠0∧k=tN s i∧o=.cells false false 1 (flat aR.fl (bE ls i)):=by
 unfold fK at h;simp only [List.mem_cons,List.mem_append] at h;rcases h with h|h|h|h|h|h
 ·injection h with e1 e2;exact .inl ⟨e1,e2⟩
 ·injection h with e1 e2;exact .inr (.inl ⟨e1,e2⟩)
 ·injection h with e1 e2;exact .inr (.inr (.inl ⟨e1,e2⟩))
 ·injection h with e1 e2;exact .inr (.inr (.inr (.inl ⟨e1,e2⟩)))
 ·obtain⟨o',h1,h2⟩:=JQ h;unfold YX at h1;split at h1
  ·cases h1
  rename_i hc;simp only [List.mem_cons,List.not_mem_nil,or_false] at h1;injection h1 with e1 e2;subst e1 e2 h2;refine .inr (.inr (.inr (.inr ⟨s,?_,hc,by unfold tN;rw [if_pos rfl],rfl⟩)));refine Decidable.byContradiction fun hq=>hc ?_;unfold bE;rw [List.getD_eq_getElem?_getD,List.getElem?_eq_none (by omega)];rfl
 obtain⟨o',h1,h2⟩:=JQ h;obtain⟨i,a1,a2,a3,a4⟩:=B4 h1;injection a4 with e1 e2;subst e1 e2 h2;exact .inr (.inr (.inr (.inr ⟨i,a1,a3,by unfold tN;rw [if_neg a2],rfl⟩)))
theorem aH1 {s i n:Nat}(h:i+1000<n):tN s i<n:=by
 unfold tN;split <;> omega
theorem M1 {h:Heap}{p k0 k1 kd kt kf k3:Nat}{nm:Nat→Nat}{l:List Pt}{D:List Dt}{ls:List (List Int)}{nE c1 c2:Nat}{n:Int}{fo:Option (Nat × Nat)}(hw:wC h p k0 k1 kd kt kf nm l D ls nE c1 c2 n fo)(hn:ls.length≤1000)(s:Nat) :
  ∀ k o,look (fK l D ls nE c1 c2 n fo s) k=some o→k<2000∧∃ g sz cs0,o=.cells false g sz cs0∧sz≠0∧(g=true→dL cs0=true)∧(∀ v∈cs0,CC 2000 v)∧∃ wr g' sz' cs,look h (rhW p k0 k1 kd kt kf k3 nm s k)=some (.cells wr g' sz' cs)∧cs.take cs0.length=cs0.map (bJ (rhW p k0 k1 kd kt kf k3 nm s)):=by
 intro k o hk;have hsl:∀ {q a b:Nat},q<2000→CC 2000 (.slice (some ⟨q,0,none⟩) a b):=fun hq=>⟨hq,fun h=>by cases h⟩;rcases E0 (aW hk) with ⟨rfl,rfl⟩|⟨rfl,rfl⟩|⟨rfl,rfl⟩|⟨rfl,rfl⟩|⟨i,hi,h0,rfl,rfl⟩
 ·obtain⟨wr,g,sz,h1⟩:=hw.st;refine⟨by omega,false,1,_,rfl,by omega,(fun h=>by cases h),?_,wr,g,sz,_,h1,?_⟩
  ·unfold IH;exact List.forall_mem_cons.2 ⟨hsl (by omega),List.forall_mem_cons.2 ⟨hsl (by omega),List.forall_mem_cons.2 ⟨bY rfl,List.forall_mem_cons.2 ⟨hsl (by omega),List.forall_mem_cons.2 ⟨hsl (by omega),List.forall_mem_cons.2 ⟨aC9 (by omega),fun _ h=>(by cases h)⟩⟩⟩⟩⟩⟩
  show _=[_,_,_,_,_,bJ _ (fcV 6 fo)];rw [YB];rfl
 ·obtain⟨wr,g,sz,cs,h1,h2⟩:=hw.da;exact⟨by omega,true,5,_,rfl,by omega,fun _=>aC rP D,fun v hv=>bY (aT (aC rP D) hv),wr,g,sz,cs,h1,by rw [h2];exact (a8 (aC rP D)).symm⟩
 ·obtain⟨wr,g,sz,h1⟩:=hw.tb;refine⟨by omega,false,1,_,rfl,by omega,(fun h=>by cases h),JK (by omega) (by omega),wr,g,sz,_,h1,?_⟩;rw [show (tC s ls).length=((List.range ls.length).map fun i=>tV (nm i) (bE ls i)).length by rw [lE];simp,List.take_length];unfold tC;rw [List.map_map];refine List.map_congr_left fun i hi=>?_;show _=bJ _ (tV (tN s i) (bE ls i));rw [GG,aHs]
 ·obtain⟨wr,g,sz,cs,h1,h2⟩:=hw.pt;exact⟨by omega,true,2,_,rfl,by omega,fun _=>aC dC l,fun v hv=>bY (aT (aC dC l) hv),wr,g,sz,cs,h1,by rw [h2];exact (a8 (aC dC l)).symm⟩
 obtain⟨wr,g,sz,cs,h1,h2⟩:=hw.li i hi h0;exact⟨aH1 (by omega),false,1,_,rfl,by omega,(fun h=>by cases h),fun v hv=>bY (aT (aC aR _) hv),wr,g,sz,cs,by rw [aHs];exact h1,by rw [h2];exact (a8 (aC aR _)).symm⟩
theorem aCM {h:Heap}{p k0 k1 kd kt kf:Nat}{nm:Nat→Nat}{l:List Pt}{D:List Dt}{ls:List (List Int)}{nE c1 c2:Nat}{n:Int}{fo:Option (Nat × Nat)}(hw:wC h p k0 k1 kd kt kf nm l D ls nE c1 c2 n fo)(hn:ls.length≤1000)(s:Nat){r:List Value}(hr:fN r=true){nx:Nat} :
  In (.pointer (some ⟨0,0,none⟩)::r) (fK l D ls nE c1 c2 n fo s) 2000 (.pointer (some ⟨p,0,none⟩)::r) h nx:=by
 refine nT (rhW p k0 k1 kd kt kf 0 nm s) ?_ ?_ (M1 hw hn s)
 ·rw [List.map_cons];congr 1
  conv=>lhs;rw [← List.map_id r]
  exact List.map_congr_left fun v hv=>by rw [fL,gU (cA hr hv)];rfl
 exact List.forall_mem_cons.2 ⟨⟨Nat.le_of_ble_eq_true rfl,rfl⟩,fun v hv=>bU (cA hr hv)⟩
theorem aGt {h:Heap}{p k0 k1 kd kt kf k3:Nat}{nm:Nat→Nat}{l:List Pt}{D:List Dt}{ls:List (List Int)}{nE c1 c2:Nat}{n:Int}{fo:Option (Nat × Nat)}(hw:wC h p k0 k1 kd kt kf nm l D ls nE c1 c2 n fo)(hn:ls.length≤1000)(s:Nat){L:List Int}{c:Nat}
  (hL:∃ wr g sz cs,look h k3=some (.cells wr g sz cs)∧cs.take (flat aR.fl L).length=flat aR.fl L) {nx:Nat} :
  In [.pointer (some ⟨0,0,none⟩),.slice (some ⟨3,0,none⟩) L.length c] ((3,.cells false true 1 (flat aR.fl L))::fK l D ls nE c1 c2 n fo s) 2000 [.pointer (some ⟨p,0,none⟩),.slice (some ⟨k3,0,none⟩) L.length c] h nx:=by
 refine nT (rhW p k0 k1 kd kt kf k3 nm s) rfl ?_ fun k o hk=>?_
 ·exact List.forall_mem_cons.2 ⟨⟨Nat.le_of_ble_eq_true rfl,rfl⟩,List.forall_mem_cons.2 ⟨⟨Nat.le_of_ble_eq_true rfl,fun h=>by cases h⟩,fun _ h=>(by cases h)⟩⟩
 rw [aB] at hk;split at hk
 ·rename_i hb;injection hk with hk;subst hk;have:=beq_true hb;subst this;obtain⟨wr,g,sz,cs,h1,h2⟩:=hL;exact⟨by omega,true,1,_,rfl,by omega,fun _=>aC aR L,fun v hv=>bY (aT (aC aR L) hv),wr,g,sz,cs,h1,by rw [h2];exact (a8 (aC aR L)).symm⟩
 exact M1 hw hn s k o hk
def wbX (s:List Pt→List Dt→List (List Int)→List Value→Option (Bool × Value)):XF:=fun args h nx K =>
 ∃ p r k0 k1 kd kt kf nm l D ls nE c1 c2 n fo,args=.pointer (some ⟨p,0,none⟩)::r∧wC h p k0 k1 kd kt kf nm l D ls nE c1 c2 n fo∧(match s l D ls r with|some pr=>dT pr.1 (K pr.2 h nx)|none=>False)
theorem UF {P:Program}{C:VC}{f:Nat}{s:List Pt→List Dt→List (List Int)→List Value→Option (Bool × Value)}(hC:bC P C)
  (hs:∀ l D ls r v,s l D ls r=some (true,v)→fN r=true∧gT v=true∧ls.length≤1000∧∃ s0,∀ nE c1 c2 n fo,C f (.pointer (some ⟨0,0,none⟩)::r) (fK l D ls nE c1 c2 n fo s0) 2000 (fun u _ _=>u=v)):dJ P f (wbX s):=by
 refine (jD (S:=fun args0 h0 n0 v1 h1 k=>∃ l D ls r s0 nE c1 c2 n fo,s l D ls r=some (true,v1)∧gT v1=true∧C f (.pointer (some ⟨0,0,none⟩)::r) (fK l D ls nE c1 c2 n fo s0) 2000 (fun u _ _=>u=v1)∧args0=.pointer (some ⟨0,0,none⟩)::r∧h0=fK l D ls nE c1 c2 n fo s0∧n0=2000∧h1=[]∧k=0) hC ?_).mono ?_ ?_
 ·rintro args0 h0 n0 v1 h1 k ⟨l,D,ls,r,s0,nE,c1,c2,n,fo,e1,e2,e3,rfl,rfl,rfl,rfl,rfl⟩;exact⟨rfl,_,e3,fun v h nx e=>by rw [e];exact lJ e2⟩
 ·rintro args h nx K ⟨p,r,k0,k1,kd,kt,kf,nm,l,D,ls,nE,c1,c2,n,fo,rfl,hw,hx⟩;split at hx
  case h_2=>exact hx.elim
  rename_i pr e1;obtain⟨bb,u⟩:=pr;obtain⟨rfl,hx⟩:=aD.1 hx;obtain⟨a1,a2,a3,s0,a4⟩:=hs l D ls r u e1;refine⟨_,_,2000,u,[],0,⟨l,D,ls,r,s0,nE,c1,c2,n,fo,e1,a2,a4 nE c1 c2 n fo,rfl,rfl,rfl,rfl,rfl⟩,aCM hw a3 s0 a1,?_⟩;simp only [rZ,zL,oP,o5,iQ a2,Nat.add_zero];exact hx
 rintro args h nx K ⟨p,r,k0,k1,kd,kt,kf,nm,l,D,ls,nE,c1,c2,n,fo,rfl,hw,hx⟩;split at hx
 case h_2=>exact hx.elim
 rename_i pr e1;obtain⟨hb,hx⟩:=aD.1 hx;exact⟨pr.2,h,nx,hx,fun K' hk=>⟨p,r,k0,k1,kd,kt,kf,nm,l,D,ls,nE,c1,c2,n,fo,rfl,hw,by rw [e1];exact aJ hb hk⟩⟩
set_option maxHeartbeats 2000000
def DA (xl:List (Nat × XF)):DC:={ aA with X:=look xl,M:=2 }
theorem aFm {xl:List (Nat × XF)}(h:kG xl):pA Go.Proofs.Tryz.prog (DA xl) where
 ar:=dV.ar
 tab:=dV.tab
 mixed:=dV.mixed
 funcs:=dV.funcs
 xs:=h.look
def dO (d:Int):Int:=if d % 2=0 then d+1 else d - 1
def UE (D:List Dt)(ls:List (List Int))(d:Int):List Int:=bE ls (bL D d.toNat).tt.toNat
def vU (D:List Dt)(ls:List (List Int))(d:Int):Int:=aE (UE D ls d) ((tD (dO d) (UE D ls d) 0 - 1+(UE D ls d).length) % (UE D ls d).length).toNat
def nxB (D:List Dt)(ls:List (List Int))(d:Int):Bool:=decide (0≤d)&&decide (d<D.length)&&decide (D.length≤1000)&&decide (ls.length≤1000)&&(decide (0≤(bL D d.toNat).tt)&&decide ((bL D d.toNat).tt<ls.length)) &&
 (decide (0≤tD (dO d) (UE D ls d) 0)&&decide (tD (dO d) (UE D ls d) 0<(UE D ls d).length)&&decide ((UE D ls d).length≤1000))
def nxS (l:List Pt)(D:List Dt)(ls:List (List Int)):List Value→Option (Bool × Value)
 |[.int .i64 d]=>some (nxB D ls d,iv (vU D ls d))
 |_=>none
theorem V7 (m:List Dt){i o:Nat}(hi:i<m.length)(ho:o=i*5+4):nth (flat rP.fl m) o=some (iv (bL m i).tt):=by
 rw [pG hi];exact lY rP m hi (k:=4) rfl (by decide) (by rw [ho];rfl)
theorem aLF (m:List Dt){i o:Nat}(hi:i<m.length)(ho:o=i*5+3):nth (flat rP.fl m) o=some (iv (bL m i).fr):=by
 rw [pG hi];exact lY rP m hi (k:=3) rfl (by decide) (by rw [ho];rfl)
theorem aNW (n:Nat):n ^^^ 1=if n % 2=0 then n+1 else n - 1:=by
 have h1:(n ^^^ 1) / 2=n / 2:=(by rw [Nat.xor_div_two];simp);have h2:(n ^^^ 1) % 2=(n % 2) ^^^ 1:=Nat.xor_mod_two_pow (n:=1);split
 ·rename_i h;rw [h] at h2;have:(0:Nat) ^^^ 1=1:=rfl;omega
 rename_i h;rw [show n % 2=1 by omega] at h2;have:(1:Nat) ^^^ 1=0:=rfl;omega
theorem aN4 {d:Int}(h:0≤d):((d.toNat ^^^ 1:Nat):Int)=dO d:=by
 rw [aNW];unfold dO;split <;> split <;> omega
def aJY:Nat × XF:=(46,wbX nxS)
theorem aNO:dJ Go.Proofs.Tryz.prog aJY.1 aJY.2:=UF (jN (aFm (xl:=[tM]) (.cons aKU .nil)) 5).1 fun l D ls r v hs=>by
 have:∃ d,r=[iv d]∧nxB D ls d=true∧v=iv (vU D ls d):=by
  unfold nxS at hs;split at hs
  ·rename_i d;injection hs with hs;injection hs with h1 h2;exact⟨d,rfl,h1,h2.symm⟩
  ·cases hs
 obtain⟨d,rfl,hB,rfl⟩:=this;clear hs;unfold nxB at hB;simp only [Bool.and_eq_true,decide_eq_true_eq] at hB;obtain⟨⟨⟨⟨⟨h1,h2⟩,h3⟩,h4⟩,h5,h6⟩,⟨h7,h8⟩,h9⟩:=hB;refine⟨rfl,rfl,h4,(bL D d.toNat).tt.toNat,fun nE c1 c2 n fo=>?_⟩;have hnn:vU D ls d=aE (UE D ls d) ((tD (dO d) (UE D ls d) 0 - 1+(UE D ls d).length) % (UE D ls d).length).toNat:=rfl;generalize vU D ls d=X at hnn ⊢;unfold UE at h7 h8 h9 hnn;generalize hs:(bL D d.toNat).tt.toNat=s at h7 h8 h9 hnn ⊢;have h0:(bE ls s).length≠0:=(by omega);have ho7:YX (bE ls s)=[(7,.cells true false 1 (flat aR.fl (bE ls s)))]:=if_neg h0;generalize hq:(bE ls s).length=q at *;have hvv:tV (tN s s) (bE ls s)=.slice (some ⟨7,0,none⟩) q q:=(by rw [tV,if_neg (by omega),tN,if_pos rfl,hq]);have key:∀ o,o=s*1→nth (tC s ls) o=some (.slice (some ⟨7,0,none⟩) q q):=fun o ho=>(by rw [GP (by omega) ho,hvv]);unfold fK IH;rw [ho7]
 repeat' first
  |(((conv=>whnf);apply bm<;>intro g))
  |((conv=>whnf)
    refine kW (V7 D (i:=d.toNat) (by omega) ?_) ?_
    ·show _+Int.toNat d*5+4=_;omega)
  |((conv=>whnf)
    refine kW (key _ ?_) ?_
    ·show _+Int.toNat (bL D d.toNat).tt*1=_;omega)
 all_goals first
  |(exfalso;simp [DA,aA,aF,vQ] at g;omega)
  |skip
 (conv=>whnf);refine⟨bE ls s,⟨hq.symm,_,_,_,_,rfl,by rw [List.drop_zero,List.take_length]⟩,?_⟩;((conv=>whnf);apply bm<;>intro g1);rotate_left
 ·have g1:decide ((bE ls s).length≤1000000)=false:=g1;exact absurd g1 (by rw [decide_eq_true (by omega)];decide)
 have hxo:(DA [tM]).A.num ((DA [tM]).A.bit BinOp.xor ((DA [tM]).A.eP d) ((DA [tM]).A.eP 1))=dO d:=aN4 h1;generalize (DA [tM]).A.num ((DA [tM]).A.bit BinOp.xor ((DA [tM]).A.eP d) ((DA [tM]).A.eP 1))=bk at hxo;subst hxo;generalize tD (dO d) (bE ls s) 0=a at h7 h8 hnn;have hix:0≤(a - 1+(q:Int)).tmod q∧(a - 1+(q:Int)).tmod q<q∧(a - 1+(q:Int)).tmod q=(a - 1+(q:Int)) % q:=by
  have e:(a - 1+(q:Int)).tmod q=(a - 1+(q:Int)) % q:=Int.tmod_eq_emod_of_nonneg (by omega);rw [e];exact⟨Int.emod_nonneg _ (by omega),Int.emod_lt_of_pos _ (by omega),rfl⟩
 have hget:∀ o,o=((a - 1+(q:Int)).tmod q).toNat*1→nth (flat aR.fl (bE ls s)) o=some (iv X):=fun o ho=>by
  rw [iY (bE ls s) (i:=((a - 1+(q:Int)).tmod q).toNat) (by omega) ho,hnn,hix.2.2]
 generalize hz:(a - 1+(q:Int)).tmod q=z at hix hget
 repeat' first
  |(((conv=>whnf);apply bm<;>intro g))
  |((conv=>whnf)
    refine kW (hget _ ?_) ?_
    ·show _+Int.toNat ((a - 1+(q:Int)).tmod q)*1=_;rw [hz];omega)
 all_goals first
  |(exfalso;simp [DA,aA,aF,aH] at g;omega)
  |(exfalso
    have g:(decide (0≤(a - 1+(q:Int)).tmod q)&&decide ((a - 1+(q:Int)).tmod q<q))=false:=g;rw [hz] at g;simp at g;omega)
  |(exfalso
    rename_i g4 g3 g2;simp [DA,aA,aF] at g2 g3 g4;omega)
  |(conv=>whnf)
def LJ (l:List Pt)(D:List Dt)(d:Int):Int:=(mL l (bL D d.toNat).fr.toNat).1*(mL l (bL D d.toNat).tt.toNat).2 - (mL l (bL D d.toNat).tt.toNat).1*(mL l (bL D d.toNat).fr.toNat).2
def IJ (l:List Pt)(D:List Dt)(ls:List (List Int)):Bool:=l.all wide&&(D.all fun e=>decide (0≤e.fr)&&decide (e.fr<l.length)&&(decide (0≤e.tt)&&decide (e.tt<l.length)))&&decide (D.length≤1000)&&decide (ls.length=l.length)&&decide (l.length≤1000)
theorem SK {l:List Pt}{D:List Dt}{ls:List (List Int)}(h:IJ l D ls=true){i:Nat}(hi:i<D.length):0≤(bL D i).fr∧(bL D i).fr<l.length∧0≤(bL D i).tt∧(bL D i).tt<l.length:=by
 simp only [IJ,Bool.and_eq_true] at h;have:=List.all_eq_true.1 h.1.1.1.2 _ (List.getElem_mem hi);rw [pG hi];simp only [Bool.and_eq_true,decide_eq_true_eq] at this;omega
theorem LC {l:List Pt}{D:List Dt}{ls:List (List Int)}(h:IJ l D ls=true){i:Nat}(hi:i<l.length) : -1000000≤(mL l i).1∧(mL l i).1≤1000000∧-1000000≤(mL l i).2∧(mL l i).2≤1000000:=by
 simp only [IJ,Bool.and_eq_true] at h;have:=List.all_eq_true.1 h.1.1.1.1 _ (List.getElem_mem hi);rw [E5 hi];unfold wide at this;simp only [Bool.and_eq_true,decide_eq_true_eq] at this;omega
theorem KN {l:List Pt}{D:List Dt}{ls:List (List Int)}(h:IJ l D ls=true):D.length≤1000∧ls.length=l.length∧l.length≤1000:=by
 simp only [IJ,Bool.and_eq_true,decide_eq_true_eq] at h;exact⟨h.1.1.2,h.1.2,h.2⟩
def crS (l:List Pt)(D:List Dt)(ls:List (List Int)):List Value→Option (Bool × Value)
 |[.int .i64 d]=>some (IJ l D ls&&decide (0≤d)&&decide (d<D.length),iv (LJ l D d))
 |_=>none
theorem aBT {s:Nat}{ls:List (List Int)}{n k:Nat}(h:k<1000∨1000+n≤k):look (eI (tH s ls n)) k=none:=by
 rw [jX,aEN h];rfl
def aB1:Nat × XF:=(146,wbX crS)
theorem LF {a b:Int}(h1 : -1000000≤a)(h2:a≤1000000)(h3 : -1000000≤b)(h4:b≤1000000) : -1000000000000≤a*b∧a*b≤1000000000000:=by
 have p1:0≤(1000000 - a)*(1000000+b):=Int.mul_nonneg (by omega) (by omega);have p2:0≤(1000000+a)*(1000000 - b):=Int.mul_nonneg (by omega) (by omega);have p3:0≤(1000000 - a)*(1000000 - b):=Int.mul_nonneg (by omega) (by omega);have p4:0≤(1000000+a)*(1000000+b):=Int.mul_nonneg (by omega) (by omega);simp only [Int.sub_mul,Int.add_mul,Int.mul_sub,Int.mul_add] at p1 p2 p3 p4;omega
theorem aLA:dJ Go.Proofs.Tryz.prog aB1.1 aB1.2:=UF (aK (xl:=[]) .nil) fun l D ls r v hs=>by
 have:∃ d,r=[iv d]∧IJ l D ls=true∧0≤d∧d<D.length∧v=iv (LJ l D d):=by
  unfold crS at hs;split at hs
  ·rename_i d;injection hs with hs;injection hs with h1 h2;simp only [Bool.and_eq_true,decide_eq_true_eq] at h1;exact⟨d,rfl,h1.1.1,h1.1.2,h1.2,h2.symm⟩
  ·cases hs
 obtain⟨d,rfl,hB,h1,h2,rfl⟩:=this;clear hs;have hn:=KN hB;refine⟨rfl,rfl,by omega,ls.length,fun nE c1 c2 n fo=>?_⟩;have ho7:YX (bE ls ls.length)=[]:=lQ (Nat.le_refl _);obtain⟨b1,b2,b3,b4⟩:=SK hB (i:=d.toNat) (by omega);have hp:=LC hB (i:=(bL D d.toNat).fr.toNat) (by omega);have hq:=LC hB (i:=(bL D d.toNat).tt.toNat) (by omega);unfold fK IH;rw [ho7]
 repeat' first
  |(((conv=>whnf);apply bm<;>intro g))
  |((conv=>whnf)
    refine kW (V7 D (i:=d.toNat) (by omega) ?_) ?_
    ·show _+Int.toNat d*5+4=_;omega)
  |((conv=>whnf)
    refine kW (aLF D (i:=d.toNat) (by omega) ?_) ?_
    ·show _+Int.toNat d*5+3=_;omega)
  |((conv=>whnf)
    refine JA (vY l (i:=(bL D d.toNat).fr.toNat) (by omega) ?_) ?_
    ·show _+Int.toNat (bL D d.toNat).fr*2=_;omega)
  |((conv=>whnf)
    refine JA (vY l (i:=(bL D d.toNat).tt.toNat) (by omega) ?_) ?_
    ·show _+Int.toNat (bL D d.toNat).tt*2=_;omega)
 all_goals first
  |(exfalso;simp [aA,aF,aH] at g;omega)
  |(exfalso
    have g:(match look (eI (tH ls.length ls ls.length)) 2000 with|none=>true|some _=>false)=false:=g;rw [aBT (by omega)] at g;cases g)
  |(exfalso
    have m1:=LF hp.1 hp.2.1 hq.2.2.1 hq.2.2.2;have m2:=LF hq.1 hq.2.1 hp.2.2.1 hp.2.2.2;simp [aA,aF,aH] at g;omega)
  |((conv=>whnf)
    first
     |done
     |rfl)
def wO (W:Heap)(b:Nat):Prop:=∀ k o,look W k=some o→k<b∧bT id b o o
theorem rO {b n0:Nat}{ρ:Nat→Nat}(hρ:∀ k,k<b→ρ k=k)(hb:b≤n0){o:bH}(h:bT id b o o):bT ρ n0 o o:=by
 have key:∀ v,CC b v→bJ ρ v=bJ id v:=fun v hv=>mF (ι:=jR id) (ι':=jR ρ) (n:=b) (fun k hk=>by show Loc.lay _ _ _=Loc.lay _ _ _;rw [hρ k hk];rfl) hv;have mono:∀ v,CC b v→CC n0 v:=fun v hv=>gZ (ι:=jR id) (ι':=jR id) hb (fun _ _=>rfl) hv;cases o with
 |cells wr g sz cs =>
  obtain⟨h1,h2,h3,h4,h5⟩:=h;refine⟨rfl,rfl,rfl,?_,fun v hv=>mono v (h5 v hv)⟩
  conv=>lhs;rw [h4]
  exact List.map_congr_left fun v hv=>(key v (h5 v hv)).symm
 |map es =>
  obtain⟨h1,h2⟩:=h;refine⟨?_,fun v hv=>mono _ (h2 v hv)⟩
  conv=>lhs;rw [h1]
  exact List.map_congr_left fun v hv=>by rw [key _ (h2 v hv)]
 |zero=>trivial
 |loop l=>exact h.elim
 |deferred=>exact h.elim
theorem qF {W:Heap}{k:Nat}{o:bH}:∀ {P:Heap},look (P++W) k=some o→(k,o)∈P∨look W k=some o
 |[],h=>.inr h
 |(j,q)::r,h=>by
  rw [List.cons_append,aB] at h;split at h
  ·rename_i hb;injection h with h;subst h;rw [beq_true hb];exact .inl (.head _)
  ·rcases qF h with h|h
   ·exact .inl (.tail _ h)
   exact .inr h
theorem rJ {b n0 nx:Nat}{I:KS}{e0 e:List (Nat × Value)}{P W h:Heap}(L:List (Nat × Nat))(hI:I e0 (P++W) n0)(he:∀ p∈e0,look e p.1=some (fL (rn L) p.2)∧x6 n0 p.2)(hW:wO W b)(hk:∀ k o,look W k=some o→look h k=some o)
  (hP:∀ p∈P,b≤p.1∧p.1<n0∧b≤rn L p.1∧∃ o',look h (rn L p.1)=some o'∧bT (rn L) n0 p.2 o') (hi:∀ k∈P.map Prod.fst,∀ k'∈P.map Prod.fst,rn L k=rn L k'→k=k') (hL:∀ p∈L,b≤p.1) (hb:b≤n0):r5 b I e h nx:=by
 have hfix:∀ k,k<b→rn L k=k:=fun k hk=>by
  unfold rn;split
  ·rename_i q hq;have:=hL _ (aW hq);simp only at this;omega
  rfl
 have hc:∀ k o,look (P++W) k=some o→(k,o)∈P∨look W k=some o:=fun k o h=>qF h;refine⟨e0,P++W,n0,rn L,hI,fun t v hv=>he (t,v) (aW hv),fun k o hk'=>?_,fun k k' o o' h1 h2 e=>?_,hfix,hb⟩
 ·rcases hc k o hk' with hm|hm
  ·exact (hP _ hm).2.1 |> fun x=>⟨x,(hP _ hm).2.2.2⟩
  obtain⟨a1,a2⟩:=hW k o hm;exact⟨by omega,o,by rw [hfix k a1];exact hk k o hm,rO hfix hb a2⟩
 ·rcases hc k o h1 with m1|m1 <;> rcases hc k' o' h2 with m2|m2
  ·exact hi k (List.mem_map.2 ⟨_,m1,rfl⟩) k' (List.mem_map.2 ⟨_,m2,rfl⟩) e
  ·have:=(hP _ m1).2.2.1;have b2:=(hW _ _ m2).1;simp only at this;rw [hfix k' b2] at e;omega
  ·have:=(hP _ m2).2.2.1;have b2:=(hW _ _ m1).1;simp only at this;rw [hfix k b2] at e;omega
  rwa [hfix k (hW _ _ m1).1,hfix k' (hW _ _ m2).1] at e
theorem tE {l:List Pt}{D:List Dt}{ls:List (List Int)}{nE c1 c2:Nat}{n:Int}{fo:Option (Nat × Nat)}{s:Nat}(hn:ls.length≤1000):wO (fK l D ls nE c1 c2 n fo s) 2000:=by
 intro k o hk;have hsl:∀ {q a b:Nat},q<2000→CC 2000 (.slice (some ⟨q,0,none⟩) a b):=fun hq=>⟨hq,fun h=>by cases h⟩;have hfix:∀ {cs:List Value},(∀ v∈cs,bJ id v=v)→cs=cs.map (bJ id):=fun {cs} h=>by
  conv=>lhs;rw [← List.map_id cs]
  exact List.map_congr_left fun v hv=>(h v hv).symm
 rcases E0 (aW hk) with ⟨rfl,rfl⟩|⟨rfl,rfl⟩|⟨rfl,rfl⟩|⟨rfl,rfl⟩|⟨i,hi,h0,rfl,rfl⟩
 ·refine⟨by omega,rfl,rfl,rfl,?_,?_⟩
  ·show _=[_,_,_,_,_,bJ _ (fcV 6 fo)];rw [YB];rfl
  unfold IH;exact List.forall_mem_cons.2 ⟨hsl (by omega),List.forall_mem_cons.2 ⟨hsl (by omega),List.forall_mem_cons.2 ⟨bY rfl,List.forall_mem_cons.2 ⟨hsl (by omega),List.forall_mem_cons.2 ⟨hsl (by omega),List.forall_mem_cons.2 ⟨aC9 (by omega),fun _ h=>(by cases h)⟩⟩⟩⟩⟩⟩
 ·exact⟨by omega,aG (aC _ _)⟩
 ·exact⟨by omega,rfl,rfl,rfl,G4 (ρ:=id) (lE _ _) fun i hi=>C0 hi,JK (by omega) (by omega)⟩
 ·exact⟨by omega,aG (aC _ _)⟩
 exact⟨aH1 (by omega),aG (aC _ _)⟩
theorem bG {W:Heap}{b k:Nat}{o:bH}(h:wO W b)(hk:k<b)(ho:bT id b o o):wO ((k,o)::W) b:=by
 intro j q hj;rw [aB] at hj;split at hj
 ·rename_i hb;injection hj with hj;subst hj;exact⟨by rw [← beq_true hb];exact hk,ho⟩
 exact h j q hj
def aLg (s:List Pt→List Dt→List (List Int)→List Int→Option (Bool × Value)):XF:=fun args h nx K =>
 ∃ p k3 k0 k1 kd kt kf nm l D ls nE c1 c2 n fo L c,args=[.pointer (some ⟨p,0,none⟩),.slice (some ⟨k3,0,none⟩) L.length c]∧wC h p k0 k1 kd kt kf nm l D ls nE c1 c2 n fo ∧
   (∃ wr g sz cs,look h k3=some (.cells wr g sz cs)∧cs.take (flat aR.fl L).length=flat aR.fl L)∧(match s l D ls L with|some pr=>dT pr.1 (K pr.2 h nx)|none=>False)
theorem aGC {P:Program}{C:VC}{f:Nat}{s:List Pt→List Dt→List (List Int)→List Int→Option (Bool × Value)}(hC:bC P C)
  (hs:∀ l D ls L v,s l D ls L=some (true,v)→gT v=true∧ls.length≤1000∧∃ s0,∀ nE c1 c2 n fo c,C f [.pointer (some ⟨0,0,none⟩),.slice (some ⟨3,0,none⟩) L.length c] ((3,.cells false true 1 (flat aR.fl L))::fK l D ls nE c1 c2 n fo s0) 2000 (fun u _ _=>u=v)):dJ P f (aLg s):=by
 refine (jD (S:=fun args0 h0 n0 v1 h1 k=>∃ l D ls L c s0 nE c1 c2 n fo,gT v1=true∧C f [.pointer (some ⟨0,0,none⟩),.slice (some ⟨3,0,none⟩) L.length c] ((3,.cells false true 1 (flat aR.fl L))::fK l D ls nE c1 c2 n fo s0) 2000 (fun u _ _=>u=v1)∧args0=[.pointer (some ⟨0,0,none⟩),.slice (some ⟨3,0,none⟩) L.length c]∧h0=(3,.cells false true 1 (flat aR.fl L))::fK l D ls nE c1 c2 n fo s0∧n0=2000∧h1=[]∧k=0) hC ?_).mono ?_ ?_
 ·rintro args0 h0 n0 v1 h1 k ⟨l,D,ls,L,c,s0,nE,c1,c2,n,fo,e2,e3,rfl,rfl,rfl,rfl,rfl⟩;exact⟨rfl,_,e3,fun v h nx e=>by rw [e];exact lJ e2⟩
 ·rintro args h nx K ⟨p,k3,k0,k1,kd,kt,kf,nm,l,D,ls,nE,c1,c2,n,fo,L,c,rfl,hw,hL,hx⟩;split at hx
  case h_2=>exact hx.elim
  rename_i pr e1;obtain⟨bb,u⟩:=pr;obtain⟨rfl,hx⟩:=aD.1 hx;obtain⟨a2,a3,s0,a4⟩:=hs l D ls L u e1;refine⟨_,_,2000,u,[],0,⟨l,D,ls,L,c,s0,nE,c1,c2,n,fo,a2,a4 nE c1 c2 n fo c,rfl,rfl,rfl,rfl,rfl⟩,aGt hw a3 s0 hL,?_⟩;simp only [rZ,zL,oP,o5,iQ a2,Nat.add_zero];exact hx
 rintro args h nx K ⟨p,k3,k0,k1,kd,kt,kf,nm,l,D,ls,nE,c1,c2,n,fo,L,c,rfl,hw,hL,hx⟩;split at hx
 case h_2=>exact hx.elim
 rename_i pr e1;obtain⟨hb,hx⟩:=aD.1 hx;exact⟨pr.2,h,nx,hx,fun K' hk=>⟨p,k3,k0,k1,kd,kt,kf,nm,l,D,ls,nE,c1,c2,n,fo,L,c,rfl,hw,hL,by rw [e1];exact aJ hb hk⟩⟩
theorem ext_cons {W h:Heap}{q:Nat}{v:bH}(hx:∀ k o,look W k=some o→look h k=some o)(hq:look W q=none):∀ k o,look W k=some o→look ((q,v)::h) k=some o:=fun k o hk=>by
 rw [aU (fun e=>by rw [e,hk] at hq;cases hq)];exact hx k o hk
theorem DS {l:List Pt}{D:List Dt}{ls:List (List Int)}{nE c1 c2:Nat}{n:Int}{fo:Option (Nat × Nat)}{s q:Nat}(hn:ls.length≤1000)(hq:q=3∨2000≤q):look (fK l D ls nE c1 c2 n fo s) q=none:=by
 cases hl:look (fK l D ls nE c1 c2 n fo s) q with
 |none=>rfl
 |some o =>
  exfalso;rcases E0 (aW hl) with ⟨h,_⟩|⟨h,_⟩|⟨h,_⟩|⟨h,_⟩|⟨i,h1,_,h,_⟩
  ·omega
  ·omega
  ·omega
  ·omega
  unfold tN at h;split at h <;> omega
theorem KW {l:List Pt}{D:List Dt}{ls:List (List Int)}{nE c1 c2:Nat}{n:Int}{fo:Option (Nat × Nat)}{s i:Nat}(hi:i<ls.length)(h0:(bE ls i).length≠0):look (fK l D ls nE c1 c2 n fo s) (tN s i)=some (.cells false false 1 (flat aR.fl (bE ls i))):=by
 unfold tN;by_cases e:i=s
 ·subst e;rw [if_pos rfl];unfold fK;rw [aU (by omega),aU (by omega),aU (by omega),aU (by omega),show YX (bE ls i)=[(7,ob (bE ls i))] from if_neg h0];rfl
 rw [if_neg e];unfold fK;rw [aU (by omega),aU (by omega),aU (by omega),aU (by omega)];have key:look (eI (tH s ls ls.length)) (i+1000)=some (.cells false false 1 (flat aR.fl (bE ls i))):=by
  rw [jX,kO e h0 hi];rfl
 unfold YX;split
 ·exact key
 show look ((7,_)::eI (tH s ls ls.length)) _=_;rw [aU (by omega)];exact key
theorem MR {h:Heap}{l:List Pt}{D:List Dt}{ls:List (List Int)}{nE c1 c2:Nat}{n:Int}{fo:Option (Nat × Nat)}{s:Nat}(hx:∀ k o,look (fK l D ls nE c1 c2 n fo s) k=some o→look h k=some o):wC h 0 4 5 1 2 6 (tN s) l D ls nE c1 c2 n fo :=
 ⟨⟨_,_,_,hx 0 _ rfl⟩,⟨_,_,_,_,hx 4 _ rfl,List.take_length⟩,⟨_,_,_,_,hx 1 _ rfl,List.take_length⟩,⟨_,_,_,hx 2 _ rfl⟩,fun i hi h0=>⟨_,_,_,_,hx _ _ (KW hi h0),List.take_length⟩⟩
def BH (l:List Pt)(D:List Dt)(L:List Int):Nat→Int
 |0=>0
 |i+1=>BH l D L i+LJ l D (aE L i)
theorem aAC {l:List Pt}{D:List Dt}{ls:List (List Int)}(h:IJ l D ls=true){d:Int}(h1:0≤d)(h2:d<D.length) : -2000000000000≤LJ l D d∧LJ l D d≤2000000000000:=by
 obtain⟨b1,b2,b3,b4⟩:=SK h (i:=d.toNat) (by omega);have hp:=LC h (i:=(bL D d.toNat).fr.toNat) (by omega);have hq:=LC h (i:=(bL D d.toNat).tt.toNat) (by omega);have m1:=LF hp.1 hp.2.1 hq.2.2.1 hq.2.2.2;have m2:=LF hq.1 hq.2.1 hp.2.2.1 hp.2.2.2;unfold LJ;omega
theorem aCw {l:List Pt}{D:List Dt}{ls:List (List Int)}(h:IJ l D ls=true){L:List Int}(hL:inR D L=true):∀ i:Nat,i≤L.length→-2000000000000*(i:Int)≤BH l D L i∧BH l D L i≤2000000000000*(i:Int)
 |0,_=>by unfold BH;omega
 |i+1,hi=>by
  have ih:=aCw h hL i (by omega);have hd:=sO hL (i:=i) (by omega);have:=aAC h hd.1 hd.2;unfold BH;omega
theorem aKe {l:List Pt}{D:List Dt}{ls:List (List Int)}{d:Int}(h:IJ l D ls=true)(h1:0≤d)(h2:d<D.length):crS l D ls [iv d]=some (true,iv (LJ l D d)):=by
 show some (IJ l D ls&&decide (0≤d)&&decide (d<D.length),iv (LJ l D d))=_;rw [h,decide_eq_true h1,decide_eq_true h2];rfl
def arS (l:List Pt)(D:List Dt)(ls:List (List Int))(L:List Int):Option (Bool × Value):=some (IJ l D ls&&inR D L&&decide (L.length≤100000),iv (BH l D L L.length))
def e89 (N c:Nat)(a j:Int):List (Nat × Value):=[(0,.pointer (some ⟨0,0,none⟩)),(5,iv a),(8,.slice (some ⟨3,0,none⟩) N c),(9,iv N),(10,iv j)]
def aJw:Nat × XF:=(85,aLg arS)
theorem aO7:dJ Go.Proofs.Tryz.prog aJw.1 aJw.2:=aGC (f:=85) (s:=arS) (aK (xl:=[aB1]) (.cons aLA .nil)) fun l D ls L v hs=>by
 have:IJ l D ls=true∧inR D L=true∧L.length≤100000∧v=iv (BH l D L L.length):=by
  unfold arS at hs;injection hs with hs;injection hs with h1 h2;simp only [Bool.and_eq_true,decide_eq_true_eq] at h1;exact⟨h1.1.1,h1.1.2,h1.2,h2.symm⟩
 obtain⟨hB,hL,hl,rfl⟩:=this;clear hs;have hn:=KN hB;refine⟨rfl,by omega,ls.length,fun nE c1 c2 n fo c=>?_⟩;(conv=>whnf);refine⟨fun q e h nx=>∃ (i:Nat) (j:Int),j=i∧i≤L.length∧q=L.length - i∧e=e89 L.length c (BH l D L i) j∧h=(3,.cells false true 1 (flat aR.fl L))::fK l D ls nE c1 c2 n fo ls.length∧nx=2000,⟨L.length,?_⟩,?_⟩
 ·refine rJ (P:=[]) (W:=(3,.cells false true 1 (flat aR.fl L))::fK l D ls nE c1 c2 n fo ls.length) (e0:=e89 L.length c 0 0) (n0:=2000) [] ⟨0,0,rfl,Nat.zero_le _,rfl,rfl,rfl,rfl⟩ ?_ (bG (tE (by omega)) (by omega) (aG (aC _ _))) (fun k o hk=>hk) (fun _ h=>(by cases h)) (fun _ h=>(by cases h)) (fun _ h=>(by cases h)) (Nat.le_refl _);unfold e89;((repeat' refine iE rfl rfl ?_);exact iN)
 rintro q e h nx ⟨i,j,hj,hi,rfl,rfl,rfl,rfl⟩;unfold e89;((conv=>whnf);apply bm<;>intro h1);rotate_left
 ·have hge:i=L.length:=(by simp [aA,aF] at h1;omega);subst hge;(conv=>whnf)
 have hlt:i<L.length:=(by simp [aA,aF] at h1;omega);have hd:=sO hL (i:=i) hlt;((conv=>whnf);apply bm<;>intro h2)
 ·(conv=>whnf);refine kW (iY L (i:=i) hlt ?_) ?_
  ·show _+Int.toNat j*1=_;omega
  (conv=>whnf);refine⟨0,[iv (aE L i)],4,5,1,2,6,tN ls.length,l,D,ls,nE,c1,c2,n,fo,rfl,MR (ext_cons (fun _ _ h=>h) (DS (by omega) (.inl rfl))),?_⟩;rw [aKe hB hd.1 hd.2];refine aJ rfl ?_;have a1:=aCw hB hL i (by omega);have a2:=aAC hB hd.1 hd.2;have hs:BH l D L (i+1)=BH l D L i+LJ l D (aE L i):=rfl;generalize BH l D L i=X at a1 hs ⊢;generalize LJ l D (aE L i)=Y at a2 hs ⊢;((conv=>whnf);apply bm<;>intro h3)
  ·((conv=>whnf);apply bm<;>intro h4)
   ·(conv=>whnf);refine⟨L.length - (i+1),by omega,?_⟩;refine rJ (P:=[]) (W:=(3,.cells false true 1 (flat aR.fl L))::fK l D ls nE c1 c2 n fo ls.length) (e0:=e89 L.length c (X+Y) (j+1)) (n0:=2000) [] ⟨i+1,j+1,by omega,by omega,rfl,by rw [hs];rfl,rfl,rfl⟩ ?_ (bG (tE (by omega)) (by omega) (aG (aC _ _))) (fun k o hk=>hk) (fun _ h=>(by cases h)) (fun _ h=>(by cases h)) (fun _ h=>(by cases h)) (Nat.le_refl _);unfold e89;((repeat' refine iE rfl rfl ?_);exact iN)
   exfalso;simp [aA,aF,aH] at h4;omega
  exfalso;simp [aA,aF,aH] at h3;omega
 exfalso;simp [aA,aF] at h2;omega
end Go.Aw
end
