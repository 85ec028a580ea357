/-
  Parts of a proof. No condition.
-/
import Derived.Test.YtjahkcbdecgbhaaGreatQBa
set_option linter.unusedSimpArgs false
set_option linter.unusedVariables false
noncomputable section
namespace Go.Aw
set_option maxRecDepth 100000
set_option maxHeartbeats 4000000
def dA (l:List Pt)(m:List Ed)(i:Nat):Dt:=⟨(eF l (cH m i).b).1 - (eF l (cH m i).a).1,(eF l (cH m i).b).2 - (eF l (cH m i).a).2,2*i,(cH m i).a,(cH m i).b⟩
def dB (l:List Pt)(m:List Ed)(i:Nat):Dt:=⟨(eF l (cH m i).a).1 - (eF l (cH m i).b).1,(eF l (cH m i).a).2 - (eF l (cH m i).b).2,2*i+1,(cH m i).b,(cH m i).a⟩
def bD (l:List Pt)(m:List Ed):Nat→List Dt
 |0=>[]
 |i+1=>bD l m i++[dA l m i,dB l m i]
theorem bP (l:List Pt)(m:List Ed):∀ i,(bD l m i).length=2*i
 |0=>rfl
 |i+1=>by rw [bD,List.length_append,bP];rfl
def AH (m:List Ed)(c2:Nat)(j:Int):List (Nat × Value):=[(1,.pointer (some ⟨2,0,none⟩)),(3,.pointer (some ⟨3,0,none⟩)),(20,.slice (some ⟨1,0,none⟩) m.length c2),(21,iv m.length),(22,iv j)]
def AD (l:List Pt)(m:List Ed)(c1 c2:Nat)(n:Int)(k:Nat)(D:List Dt):Heap :=
 (6,.cells true false 5 (flat sH.fl D))::(5,.cells true false 1 (rep l.length [aR]))::(3,.cells true false 1 [.pointer (some ⟨4,0,none⟩)])::(4,.cells true false 1 (pY l.length m.length c1 c2 n (.slice (some ⟨6,0,none⟩) k k) (.slice (some ⟨5,0,none⟩) l.length l.length) aR)) ::
 (2,aX l.length m.length c1 c2 n)::aB aT aW l m
theorem bm2 {k:Nat}{X Y:Prop}(h:Y):(match (generalizing:=false) Nat.ble (k+2) k with|true=>X|false=>Y):=by
 cases hb:Nat.ble (k+2) k with
 |false=>exact h
 |true=>have:=Nat.le_of_ble_eq_true hb;omega
theorem aDH {i N s:Nat}{p:Prop}(hN:N=i*s)(hi:i+2≤1000000000)
  (h:aA.A.andB (aA.A.andB ((i+2).ble 1000000000) ((0+i*s).ble N)) (aA.A.andB ((0+i*s).beq N) (Nat.beq s s))=false):p:=by
 exfalso;have h1:(i+2).ble 1000000000=true:=Nat.ble_eq_true_of_le hi;have h2:(0+i*s).ble N=true:=Nat.ble_eq_true_of_le (by omega);have h3:(0+i*s).beq N=true:=(by rw [hN,Nat.zero_add];exact Nat.beq_refl _);rw [h1,h2,h3,Nat.beq_refl] at h;cases h
theorem SZ {α:Type}(E:El α)(o:List α)(x y:α){n:Nat}(hn:n=o.length):((flat E.fl o).drop 0).take (n*E.sz)++(E.fl x++E.fl y)=flat E.fl (o++[x,y]):=by
 subst hn;rw [List.drop_zero,← a7 E o,List.take_length,pB];simp [flat]
theorem rG {l:List Pt}{m:List Ed}{n:Int}(h:dG l m n=true){i:Nat}(hi:i<l.length):0≤(jG l i).1∧(jG l i).1≤10000∧0≤(jG l i).2∧(jG l i).2≤10000:=by
 simp only [dG,Bool.and_eq_true] at h;have h1:=fY h.2.1 hi;simp only [C8,bV,Bool.and_eq_true,decide_eq_true_eq] at h1;omega
theorem aIg:eO aIv:=RQ (pF.cons (aGn 1000) .nil).look
end Go.Aw
end

noncomputable section
namespace Go.Aw
set_option maxRecDepth 100000
def bR (ls:List (List Int))(i:Nat):List Int:=ls.getD i []
theorem vT (ls:List (List Int)){s:Nat}(hs:s<ls.length)(x:List Int)(i:Nat):bR (ls.set s x) i=if i=s then x else bR ls i:=by
 unfold bR;rw [List.getD_eq_getElem?_getD,List.getD_eq_getElem?_getD,List.getElem?_set];by_cases h:s=i
 ·subst h;simp [hs]
 rw [if_neg h,if_neg (fun e=>h e.symm)]
def tN (s i:Nat):Nat:=if i=s then 7 else i+1000
def tV (q:Nat)(l:List Int):Value:=if l.length=0 then aR else .slice (some ⟨q,0,none⟩) l.length l.length
def tC (s:Nat)(ls:List (List Int)):List Value:=(List.range ls.length).map fun i=>tV (tN s i) (bR ls i)
theorem lL (s:Nat)(ls:List (List Int)):(tC s ls).length=ls.length:=by simp [tC]
theorem CG {s:Nat}{ls:List (List Int)}{i:Nat}(hi:i<ls.length):(tC s ls)[i]? = some (tV (tN s i) (bR ls i)):=by
 unfold tC;rw [List.getElem?_map,List.getElem?_range hi];rfl
theorem HB {s:Nat}{ls:List (List Int)}{i o:Nat}(hi:i<ls.length)(ho:o=i*1):nth (tC s ls) o=some (tV (tN s i) (bR ls i)):=by
 rw [tL,ho,Nat.mul_one];exact CG hi
theorem RB {cs:List Value}{i o:Nat}{v:Value}(ho:o=i)(hi:i<cs.length):cN cs o [v]=cs.set i v:=by
 subst ho;apply List.ext_getElem?;intro j;rw [OP (by simp;omega),List.getElem?_set];by_cases e:o=j
 ·subst e;rw [if_pos ⟨Nat.le_refl _,by simp⟩,if_pos rfl,if_pos hi,Nat.sub_self];rfl
 rw [if_neg (by simp;omega),if_neg e]
def ob (L:List Int):a8:=.cells true false 1 (flat aP.fl L)
def tH (s:Nat)(ls:List (List Int)):Nat→Heap
 |0=>[]
 |n+1=>if n=s∨(bR ls n).length=0 then tH s ls n else (n+1000,ob (bR ls n))::tH s ls n
theorem B7 {s:Nat}{ls:List (List Int)}:∀ {n:Nat} {p:Nat × a8},p∈tH s ls n→∃ i,i<n∧i≠s∧(bR ls i).length≠0∧p=(i+1000,ob (bR ls i))
 |0,p,h=>by cases h
 |n+1,p,h=>by
  unfold tH at h;split at h
  ·obtain⟨i,h1,h2⟩:=B7 h;exact⟨i,by omega,h2⟩
  rename_i hc;rcases List.mem_cons.1 h with rfl|h
  ·exact⟨n,Nat.lt_succ_self n,fun e=>hc (.inl e),fun e=>hc (.inr e),rfl⟩
  obtain⟨i,h1,h2⟩:=B7 h;exact⟨i,by omega,h2⟩
theorem bK {α:Type}{k n:Nat}{v:α}{r:List (Nat × α)}(h:k≠n):look ((k,v)::r) n=look r n:=by
 rw [aE];split
 ·rename_i hb;exact absurd (beq_true hb) h
 rfl
theorem lP {s:Nat}{ls:List (List Int)}{i:Nat}(h1:i≠s)(h2:(bR ls i).length≠0):∀ {n:Nat},i<n→look (tH s ls n) (i+1000)=some (ob (bR ls i))
 |0,h=>by omega
 |n+1,h=>by
  unfold tH;by_cases e:i=n
  ·subst e;rw [if_neg (by rintro (e|e);exact h1 e;exact h2 e),aE,Nat.beq_refl]
  split
  ·exact lP h1 h2 (by omega)
  rw [bK (by omega)];exact lP h1 h2 (by omega)
theorem aE4 {s:Nat}{ls:List (List Int)}{k n:Nat}(h:k<1000∨1000+n≤k):look (tH s ls n) k=none:=by
 cases hl:look (tH s ls n) k with
 |none=>rfl
 |some o =>
  obtain⟨i,h1,_,_,h2⟩:=B7 (bF hl);injection h2 with h2 _;omega
theorem aCF {s:Nat}{ls:List (List Int)}:∀ {n:Nat},(∀ i,i<n→(bR ls i).length=0)→tH s ls n=[]
 |0,_=>rfl
 |n+1,h=>by
  unfold tH;rw [if_pos (.inr (h n (Nat.lt_succ_self n)))];exact aCF fun i hi=>h i (by omega)
def ZA (L:List Int):Heap:=if L.length=0 then [] else [(7,ob L)]
def gK (l:List Pt)(m:List Ed)(c1 c2:Nat)(n:Int)(k:Nat)(D:List Dt)(s:Nat)(ls:List (List Int)):Heap :=
 (6,.cells true false 5 (flat sH.fl D))::(5,.cells true false 1 (tC s ls))::(3,.cells true false 1 [.pointer (some ⟨4,0,none⟩)])::(4,.cells true false 1 (pY l.length m.length c1 c2 n (.slice (some ⟨6,0,none⟩) k k) (.slice (some ⟨5,0,none⟩) l.length l.length) aR)) ::
 (2,aX l.length m.length c1 c2 n)::(0,.cells false true aT.sz (flat aT.fl l))::(1,.cells false true aW.sz (flat aW.fl m))::(ZA (bR ls s)++tH s ls ls.length)
def oU (k:Nat)(j:Int):List (Nat × Value):=[(3,.pointer (some ⟨3,0,none⟩)),(89,.slice (some ⟨6,0,none⟩) k k),(90,iv k),(91,iv j)]
theorem aF7 {ρ:Nat→Nat}{q a b:Nat}:cD ρ (.slice (some ⟨q,0,none⟩) a b)=.slice (some ⟨ρ q,0,none⟩) a b:=rfl
theorem T8 {ρ:Nat→Nat}{q:Nat}{L:List Int}:cD ρ (tV q L)=tV (ρ q) L:=by
 unfold tV;split
 ·rfl
 rfl
theorem aK7 {q n:Nat}{L:List Int}(h:q<n):DN n (tV q L):=by
 unfold tV;split
 ·exact cX rfl
 exact⟨h,fun h=>by cases h⟩
theorem KW {s n:Nat}{ls:List (List Int)}(h7:7<n)(hn:ls.length+1000≤n):∀ v∈tC s ls,DN n v:=by
 intro v hv;unfold tC at hv;obtain⟨i,hi,rfl⟩:=List.mem_map.1 hv;have:=List.mem_range.1 hi;refine aK7 ?_;unfold tN;split <;> omega
def rh2 (s s':Nat):Nat→Nat:=rn [(7,if s'=s then 2002 else s'+1000),(s+1000,2002)]
theorem JJ (s s':Nat):rh2 s s' 7=if s'=s then 2002 else s'+1000:=rfl
theorem XO {s s' k:Nat}(h:k<7):rh2 s s' k=k:=by
 unfold rh2 rn;rw [bK (by omega),bK (by omega)];rfl
theorem CR {s s' i:Nat}:rh2 s s' (i+1000)=if i=s then 2002 else i+1000:=by
 unfold rh2 rn;rw [bK (by omega)];by_cases e:i=s
 ·rw [if_pos e,e,aE,Nat.beq_refl]
 rw [if_neg e,bK (by omega)];rfl
theorem aKd (s s' i:Nat)(hi:i=s'→s'≠s→i≠s):rh2 s s' (tN s' i)=if i=s then 2002 else i+1000:=by
 unfold tN;by_cases e:i=s'
 ·rw [if_pos e,JJ];by_cases e2:s'=s
  ·rw [if_pos e2,if_pos (e.trans e2)]
  rw [if_neg e2,if_neg (hi e e2),e]
 rw [if_neg e,CR]
def Fx (v:Value):Prop:=(∃ q a b,q<7∧v=.slice (some ⟨q,0,none⟩) a b)∨(∃ q,q<7∧v=.pointer (some ⟨q,0,none⟩))∨gS v=true
theorem Fx.jX {ρ:Nat→Nat}(hρ:∀ k,k<7→ρ k=k){v:Value}(h:Fx v):cD ρ v=v:=by
 rcases h with ⟨q,a,b,hq,rfl⟩|⟨q,hq,rfl⟩|h
 ·rw [aF7,hρ q hq]
 ·show Value.pointer (some ⟨ρ q,0,none⟩)=_;rw [hρ q hq]
 exact kG h
theorem Fx.nm {v:Value}{n:Nat}(hn:7≤n)(h:Fx v):DN n v:=by
 rcases h with ⟨q,a,b,hq,rfl⟩|⟨q,hq,rfl⟩|h
 ·exact⟨Nat.lt_of_lt_of_le hq hn,fun h=>by cases h⟩
 ·exact⟨Nat.lt_of_lt_of_le hq hn,rfl⟩
 exact cX h
theorem KL {ρ:Nat→Nat}(hρ:∀ k,k<7→ρ k=k){n:Nat}(hn:7≤n){wr g:Bool}{sz:Nat}{cs:List Value}(h:∀ v∈cs,Fx v):bQ ρ n (.cells wr g sz cs) (.cells wr g sz cs):=by
 refine⟨rfl,rfl,rfl,?_,fun v hv=>(h v hv).nm hn⟩
 conv=>lhs;rw [← List.map_id cs]
 exact List.map_congr_left fun v hv=>((h v hv).jX hρ).symm
theorem L7 {α:Type}(E:El α)(l:List α):∀ v∈flat E.fl l,Fx v:=fun v hv=>.inr (.inr (bB (aH E l) hv))
theorem YN {q a b:Nat}(h:q<7):Fx (.slice (some ⟨q,0,none⟩) a b):=.inl ⟨q,a,b,h,rfl⟩
theorem aM3 {q:Nat}(h:q<7):Fx (.pointer (some ⟨q,0,none⟩)):=.inr (.inl ⟨q,h,rfl⟩)
theorem aIP {v:Value}(h:gS v=true):Fx v:=.inr (.inr h)
def sG (l:List Pt)(m:List Ed)(c1 c2:Nat)(n:Int)(k:Nat)(D:List Dt):Heap :=
 [(6,.cells true false 5 (flat sH.fl D)),(3,.cells true false 1 [.pointer (some ⟨4,0,none⟩)]),(4,.cells true false 1 (pY l.length m.length c1 c2 n (.slice (some ⟨6,0,none⟩) k k) (.slice (some ⟨5,0,none⟩) l.length l.length) aR)),
 (2,aX l.length m.length c1 c2 n),(0,.cells false true aT.sz (flat aT.fl l)),(1,.cells false true aW.sz (flat aW.fl m))]
theorem AZ {ρ:Nat→Nat}(hρ:∀ k,k<7→ρ k=k){N:Nat}(hN:7≤N){l:List Pt}{m:List Ed}{c1 c2:Nat}{n:Int}{k:Nat}{D:List Dt}:∀ p∈sG l m c1 c2 n k D,p.1<7∧p.1≠5∧bQ ρ N p.2 p.2:=by
 unfold sG;refine List.forall_mem_cons.2 ⟨⟨Nat.le_of_ble_eq_true rfl,Nat.ne_of_beq_eq_false rfl,KL hρ hN (L7 _ _)⟩,List.forall_mem_cons.2 ⟨⟨Nat.le_of_ble_eq_true rfl,Nat.ne_of_beq_eq_false rfl,KL hρ hN ?_⟩,List.forall_mem_cons.2 ⟨⟨Nat.le_of_ble_eq_true rfl,Nat.ne_of_beq_eq_false rfl,KL hρ hN ?_⟩,List.forall_mem_cons.2 ⟨⟨Nat.le_of_ble_eq_true rfl,Nat.ne_of_beq_eq_false rfl,KL hρ hN ?_⟩,List.forall_mem_cons.2 ⟨⟨Nat.le_of_ble_eq_true rfl,Nat.ne_of_beq_eq_false rfl,KL hρ hN (L7 _ _)⟩,List.forall_mem_cons.2 ⟨⟨Nat.le_of_ble_eq_true rfl,Nat.ne_of_beq_eq_false rfl,KL hρ hN (L7 _ _)⟩,fun _ h=>(by cases h)⟩⟩⟩⟩⟩⟩
 ·exact List.forall_mem_cons.2 ⟨aM3 (by decide),fun _ h=>(by cases h)⟩
 ·exact List.forall_mem_cons.2 ⟨YN (by decide),List.forall_mem_cons.2 ⟨YN (by decide),List.forall_mem_cons.2 ⟨aIP rfl,List.forall_mem_cons.2 ⟨YN (by decide),List.forall_mem_cons.2 ⟨YN (by decide),List.forall_mem_cons.2 ⟨aIP rfl,fun _ h=>(by cases h)⟩⟩⟩⟩⟩⟩
 exact List.forall_mem_cons.2 ⟨YN (by decide),List.forall_mem_cons.2 ⟨YN (by decide),List.forall_mem_cons.2 ⟨aIP rfl,fun _ h=>(by cases h)⟩⟩⟩
theorem vU {l:List Pt}{m:List Ed}{c1 c2:Nat}{n:Int}{k:Nat}{D:List Dt}{s:Nat}{ls:List (List Int)}{p:Nat × a8}(h:p∈gK l m c1 c2 n k D s ls) :
  p∈sG l m c1 c2 n k D∨p=(5,.cells true false 1 (tC s ls))∨((bR ls s).length≠0∧p=(7,ob (bR ls s)))∨∃ i,i<ls.length∧i≠s∧(bR ls i).length≠0∧p=(i+1000,ob (bR ls i)):=by
 unfold gK at h;unfold sG;simp only [List.mem_cons,List.mem_append,List.not_mem_nil,or_false] at h ⊢;rcases h with h|h|h|h|h|h|h|h|h
 ·exact .inl (.inl h)
 ·exact .inr (.inl h)
 ·exact .inl (.inr (.inl h))
 ·exact .inl (.inr (.inr (.inl h)))
 ·exact .inl (.inr (.inr (.inr (.inl h))))
 ·exact .inl (.inr (.inr (.inr (.inr (.inl h)))))
 ·exact .inl (.inr (.inr (.inr (.inr (.inr h)))))
 ·unfold ZA at h;split at h
  ·cases h
  rename_i hc;exact .inr (.inr (.inl ⟨hc,by simpa using h⟩))
 obtain⟨i,h1,h2,h3,h4⟩:=B7 h;exact .inr (.inr (.inr ⟨i,h1,h2,h3,h4⟩))
theorem A6 {ρ:Nat→Nat}{n:Nat}{L:List Int}:bQ ρ n (ob L) (ob L):=aN (aH _ _)
theorem EV {ρ:Nat→Nat}{s':Nat}{ls':List (List Int)}{cs:List Value}(hl:cs.length=ls'.length)(h:∀ i,i<ls'.length→cs[i]? = some (tV (ρ (tN s' i)) (bR ls' i))):cs=(tC s' ls').map (cD ρ):=by
 apply List.ext_getElem?;intro i;by_cases hi:i<ls'.length
 ·rw [h i hi,List.getElem?_map,CG hi];simp only [Option.map_some,T8]
 rw [List.getElem?_eq_none (by omega),List.getElem?_eq_none (by rw [List.length_map,lL];omega)]
section
variable {l:List Pt}{m:List Ed}{c1 c2:Nat}{n:Int}{k:Nat}{D:List Dt}{s s' q:Nat}{ls:List (List Int)}{x j:Int}{e:List (Nat × Value)}{h:Heap}{nx:Nat}{I:KS}
theorem aCj {ρ:Nat→Nat}(hρ:∀ k,k<7→ρ k=k)(he:∀ p∈oU k j,look e p.1=some p.2):∀ t v,look (oU k j) t=some v→look e t=some (jX ρ v)∧C3 2000 v:=by
 intro t v hv;have hm:=bF hv;have h1:=he _ hm;unfold oU at hm;simp only [List.mem_cons,List.not_mem_nil,or_false] at hm;rw [h1];rcases hm with hm|hm|hm|hm <;> (injection hm with _ hm;subst hm)
 ·exact⟨by show some (Value.pointer (some ⟨3,0,none⟩))=some (Value.pointer (some ⟨ρ 3,0,none⟩));rw [hρ 3 (by decide)],by decide,rfl⟩
 ·exact⟨by show some (Value.slice (some ⟨6,0,none⟩) k k)=some (Value.slice (some ⟨ρ 6,0,none⟩) k k);rw [hρ 6 (by decide)],by decide,fun h=>by cases h⟩
 ·exact⟨by rw [jX,gZ rfl],dI rfl⟩
 exact⟨by rw [jX,gZ rfl],dI rfl⟩
theorem aGC (hs:s<ls.length)(hn:ls.length≤1000)(hI:I (oU k j) (gK l m c1 c2 n k D s' (ls.set s (bR ls s++[x]))) 2000)(he:∀ p∈oU k j,look e p.1=some p.2)
  (hb:∀ p∈sG l m c1 c2 n k D,look h p.1=some p.2) (hq:q=(bR ls s).length+1) (h5:look h 5=some (.cells true false 1 ((tC s ls).set s (.slice (some ⟨2002,0,none⟩) q q))))
  (h2:look h 2002=some (ob (bR ls s++[x]))) (ht:∀ i,i<ls.length→i≠s→(bR ls i).length≠0→look h (i+1000)=some (ob (bR ls i))):rM 2 I e h nx:=by
 have hat:∀ i,bR (ls.set s (bR ls s++[x])) i=if i=s then bR ls s++[x] else bR ls i:=vT ls hs _
 have hl:(ls.set s (bR ls s++[x])).length=ls.length:=List.length_set;have hρ:∀ k,k<7→rh2 s s' k=k:=fun k hk=>XO hk;generalize ls.set s (bR ls s++[x])=ls' at hI hat hl;refine⟨oU k j,gK l m c1 c2 n k D s' ls',2000,rh2 s s',hI,aCj hρ he,?_,?_,fun k hk=>XO (by omega),by omega⟩
 ·intro k' o hk;rcases vU (bF hk) with hm|hm|⟨h7,hm⟩|⟨i,h1,h3,h4,hm⟩
  ·obtain⟨a1,_,a2⟩:=AZ hρ (N:=2000) (by omega) _ hm;simp only at a1 a2;exact⟨by omega,o,by rw [hρ k' a1];exact hb _ hm,a2⟩
  ·injection hm with e1 e2;subst e1 e2;refine⟨by omega,.cells true false 1 ((tC s ls).set s (.slice (some ⟨2002,0,none⟩) q q)),by rw [hρ 5 (by omega)];exact h5,rfl,rfl,rfl,EV (by rw [List.length_set,lL,hl]) fun i hi=>?_,KW (by omega) (by omega)⟩;rw [hl] at hi;rw [aKd s s' i (fun e1 e2 e3=>e2 (e1.symm.trans e3)),List.getElem?_set,hat];by_cases e1:s=i
   ·subst e1;rw [if_pos rfl,if_pos rfl,if_pos rfl,if_pos (by rw [lL];exact hi)];unfold tV;rw [if_neg (by simp),List.length_append,hq];rfl
   rw [if_neg e1,if_neg (fun e=>e1 e.symm),if_neg (fun e=>e1 e.symm),CG hi];unfold tN;rw [if_neg (fun e=>e1 e.symm)]
  ·injection hm with e1 e2;subst e1 e2;rw [JJ,hat];rw [hat] at h7;by_cases e1:s'=s
   ·rw [if_pos e1,if_pos e1];exact⟨by omega,_,h2,A6⟩
   rw [if_neg e1,if_neg e1];rw [if_neg e1] at h7;have hs':s'<ls.length:=by
    refine Decidable.byContradiction fun hc=>h7 ?_;unfold bR;rw [List.getD_eq_getElem?_getD,List.getElem?_eq_none (by omega)];rfl
   exact⟨by omega,_,ht s' hs' e1 h7,A6⟩
  injection hm with e1 e2;subst e1 e2;rw [hl] at h1;rw [CR,hat];rw [hat] at h4;by_cases e1:i=s
  ·rw [if_pos e1,if_pos e1];exact⟨by omega,_,h2,A6⟩
  rw [if_neg e1,if_neg e1];rw [if_neg e1] at h4;exact⟨by omega,_,ht i h1 e1 h4,A6⟩
 have hc:∀ {k' o},look (gK l m c1 c2 n k D s' ls') k'=some o→k'<7∨(k'=7∧(s'≠s→s'<ls.length))∨∃ i,i<ls.length∧i≠s'∧k'=i+1000:=by
  intro k' o hk;rcases vU (bF hk) with hm|hm|⟨h7,hm⟩|⟨i,h1,h3,h4,hm⟩
  ·exact .inl (AZ hρ (N:=2000) (by omega) _ hm).1
  ·injection hm with e1 e2;exact .inl (by omega)
  ·injection hm with e1 e2;refine .inr (.inl ⟨e1,fun e2=>Decidable.byContradiction fun hc=>h7 ?_⟩);rw [hat,if_neg e2];unfold bR;rw [List.getD_eq_getElem?_getD,List.getElem?_eq_none (by omega)];rfl
  injection hm with e1 e2;exact .inr (.inr ⟨i,by omega,h3,e1⟩)
 intro k1 k2 o1 o2 hk1 hk2 heq;rcases hc hk1 with a1|⟨a1,a2⟩|⟨i1,a1,a2,a3⟩ <;> rcases hc hk2 with b1|⟨b1,b2⟩|⟨i2,b1,b2,b3⟩
 ·rw [hρ _ a1,hρ _ b1] at heq;exact heq
 ·rw [hρ _ a1,b1,JJ] at heq;split at heq <;> omega
 ·rw [hρ _ a1,b3,CR] at heq;split at heq <;> omega
 ·rw [hρ _ b1,a1,JJ] at heq;split at heq <;> omega
 ·omega
 ·rw [a1,b3,JJ,CR] at heq;split at heq <;> split at heq <;> omega
 ·rw [hρ _ b1,a3,CR] at heq;split at heq <;> omega
 ·rw [b1,a3,JJ,CR] at heq;split at heq <;> split at heq <;> omega
 rw [a3,b3,CR,CR] at heq;split at heq <;> split at heq <;> omega
end
theorem QH {A B:List Dt}{i:Nat}(h:i<A.length):cB (A++B) i=cB A i:=by
 unfold cB;rw [List.getD_eq_getElem?_getD,List.getD_eq_getElem?_getD,List.getElem?_append_left h]
theorem RA {A B:List Dt}{i j:Nat}(h:i=A.length+j):cB (A++B) i=cB B j:=by
 unfold cB;rw [List.getD_eq_getElem?_getD,List.getD_eq_getElem?_getD,List.getElem?_append_right (by omega),show i - A.length=j by omega]
theorem GD (l:List Pt)(m:List Ed):∀ {N i:Nat},i<N→cB (bD l m N) (2*i)=dA l m i∧cB (bD l m N) (2*i+1)=dB l m i
 |0,i,h=>by omega
 |N+1,i,h=>by
  have hl:=bP l m N;unfold bD;by_cases e:i=N
  ·subst e;rw [RA (j:=0) (by omega),RA (j:=1) (by omega)];exact⟨rfl,rfl⟩
  rw [QH (by omega),QH (by omega)];exact GD l m (by omega)
theorem m9 {l:List Pt}{m:List Ed}{N i:Nat}(h:i<2*N):(i % 2=0∧cB (bD l m N) i=dA l m (i / 2))∨(i % 2=1∧cB (bD l m N) i=dB l m (i / 2)):=by
 have:=GD l m (N:=N) (i:=i / 2) (by omega);by_cases e:i % 2=0
 ·left;rw [show 2*(i / 2)=i by omega] at this;exact⟨e,this.1⟩
 right;rw [show 2*(i / 2)+1=i by omega] at this;exact⟨by omega,this.2⟩
theorem mN {l:List Pt}{m:List Ed}(hM:pU l m=true){i:Nat}(h:i<2*m.length):0≤(cB (bD l m m.length) i).fr∧(cB (bD l m m.length) i).fr<l.length∧0≤(cB (bD l m m.length) i).tt∧(cB (bD l m m.length) i).tt<l.length∧(cB (bD l m m.length) i).no=i:=by
 have he:=rS hM (i:=i / 2) (by omega);rcases m9 (l:=l) (m:=m) h with ⟨e,h1⟩|⟨e,h1⟩
 ·rw [h1];simp only [dA];omega
 rw [h1];simp only [dB];omega
theorem aAv {l:List Pt}{m:List Ed}{n:Int}(hok:dG l m n=true)(hM:pU l m=true):fV (bD l m m.length)=true:=by
 refine List.all_eq_true.2 fun d hd=>?_;obtain⟨i,hi,rfl⟩:=List.getElem_of_mem hd;rw [← pR hi];rw [bP] at hi;have he:=rS hM (i:=i / 2) (by omega);have pa:=rG hok (i:=(cH m (i / 2)).a.toNat) (by omega);have pb:=rG hok (i:=(cH m (i / 2)).b.toNat) (by omega);rcases m9 (l:=l) (m:=m) hi with ⟨e,h1⟩|⟨e,h1⟩
 ·rw [h1];unfold wide;simp only [Bool.and_eq_true,decide_eq_true_eq];simp only [eX,dA,eF];omega
 rw [h1];unfold wide;simp only [Bool.and_eq_true,decide_eq_true_eq];simp only [eX,dB,eF];omega
def qX (nP:Nat)(D:List Dt):Nat→List (List Int)
 |0=>List.replicate nP []
 |j+1=>(qX nP D j).set (cB D j).fr.toNat (bR (qX nP D j) (cB D j).fr.toNat++[(cB D j).no])
theorem oH (nP:Nat)(D:List Dt):∀ j,(qX nP D j).length=nP
 |0=>List.length_replicate
 |j+1=>by unfold qX;rw [List.length_set];exact oH nP D j
theorem D5 (nP:Nat)(D:List Dt):∀ (j s:Nat),(∀ i,i<j→(cB D i).fr.toNat<nP)→(bR (qX nP D j) s).length≤j
 |0,s,_=>by
  show (bR (List.replicate nP []) s).length≤0;unfold bR;rw [List.getD_eq_getElem?_getD,List.getElem?_replicate];split <;> exact Nat.le_refl _
 |j+1,s,h=>by
  unfold qX;rw [vT _ (by rw [oH];exact h j (Nat.lt_succ_self j))];split
  ·rename_i e;have:=D5 nP D j (cB D j).fr.toNat fun i hi=>h i (by omega);rw [List.length_append,List.length_singleton];omega
  have:=D5 nP D j s fun i hi=>h i (by omega);omega
theorem bm1 {k:Nat}{X Y:Prop}(h:Y):(match (generalizing:=false) Nat.ble (k+1) k with|true=>X|false=>Y):=by
 cases hb:Nat.ble (k+1) k with
 |false=>exact h
 |true=>have:=Nat.le_of_ble_eq_true hb;omega
def sD (nP:Nat)(D:List Dt)(i:Nat):Nat:=if i<D.length then (cB D i).fr.toNat else nP
theorem DY {n i:Nat}:bR (List.replicate n []) i=[]:=by
 unfold bR;rw [List.getD_eq_getElem?_getD,List.getElem?_replicate];split <;> rfl
theorem aGV {n s:Nat}:tC s (List.replicate n [])=List.replicate n aR:=by
 apply List.ext_getElem?;intro i;by_cases hi:i<n
 ·rw [CG (by rw [List.length_replicate];exact hi),List.getElem?_replicate,if_pos hi,DY];rfl
 rw [List.getElem?_eq_none (by rw [lL,List.length_replicate];omega),List.getElem?_eq_none (by rw [List.length_replicate];omega)]
theorem UX (v:Value):∀ n,rep n [v]=List.replicate n v
 |0=>rfl
 |n+1=>by rw [List.replicate_succ,← UX v n];rfl
theorem aFG {l:List Pt}{m:List Ed}{c1 c2:Nat}{n:Int}{k:Nat}{D:List Dt}{s:Nat}:gK l m c1 c2 n k D s (List.replicate l.length [])=AD l m c1 c2 n k D:=by
 unfold gK AD;rw [aGV,DY,aCF (fun i _=>by rw [DY];rfl),UX];rfl
def SJ (D:List Dt)(s j:Nat):List Int:=((List.range j).filter fun i=>decide ((cB D i).fr.toNat=s)).map fun (i:Nat)=>(i:Int)
theorem D7 {nP:Nat}{D:List Dt}:∀ (j:Nat),(∀ i,i<j→(cB D i).fr.toNat<nP∧(cB D i).no=i)→∀ s,bR (qX nP D j) s=SJ D s j
 |0,_,s=>DY
 |j+1,h,s=>by
  have ih:=D7 j fun i hi=>h i (by omega);have hj:=h j (Nat.lt_succ_self j);unfold qX;rw [vT _ (by rw [oH];exact hj.1),ih,ih];unfold SJ;rw [List.range_succ,List.filter_append,List.map_append];by_cases e:s=(cB D j).fr.toNat
  ·rw [if_pos e,e,hj.2];congr 1;rw [List.filter_cons_of_pos (by simp)];rfl
  rw [if_neg e,List.filter_cons_of_neg (by simpa using fun h=>e h.symm)];simp
theorem NP {D:List Dt}{s j:Nat}{x:Int}(h:x∈SJ D s j):∃ i,i<j∧x=i∧(cB D i).fr.toNat=s:=by
 unfold SJ at h;obtain⟨i,hi,rfl⟩:=List.mem_map.1 h;obtain⟨h1,h2⟩:=List.mem_filter.1 hi;exact⟨i,List.mem_range.1 h1,rfl,by simpa using h2⟩
theorem SV {D:List Dt}{s j i:Nat}(h:i<j)(hs:(cB D i).fr.toNat=s):(i:Int)∈SJ D s j :=
 List.mem_map.2 ⟨i,List.mem_filter.2 ⟨List.mem_range.2 h,by simpa using hs⟩,rfl⟩
theorem yR (k:List Bool)(x:Nat)(i:Nat)(h:dD (k.set x true) i=true):i=x∨dD k i=true:=by
 unfold dD at h ⊢;rw [List.getD_eq_getElem?_getD,List.getElem?_set] at h;by_cases e:x=i
 ·exact .inl e.symm
 rw [if_neg e,← List.getD_eq_getElem?_getD] at h;exact .inr h
theorem KR (m:List Ed)(s:List Bool):∀ (i p:Nat),dD (m7 m s i) p=true→dD s p=true∨∃ e,e<i∧(p=(cH m e).a.toNat∨p=(cH m e).b.toNat)
 |0,p,h=>.inl h
 |i+1,p,h=>by
  unfold m7 at h;rcases yR _ _ _ h with e|h
  ·exact .inr ⟨i,Nat.lt_succ_self i,.inr e⟩
  ·rcases yR _ _ _ h with e|h
   ·exact .inr ⟨i,Nat.lt_succ_self i,.inl e⟩
   ·rcases KR m s i p h with h|⟨e,h1,h2⟩
    ·exact .inl h
    exact .inr ⟨e,by omega,h2⟩
theorem UY {l:List Pt}{m:List Ed}{n:Int}(hok:dG l m n=true){s:Nat}(hs:s<l.length):(SJ (bD l m m.length) s (2*m.length)).length≠0:=by
 simp only [dG,Bool.and_eq_true] at hok;have h1:=List.all_eq_true.1 hok.2.2.2;have h2:dD (m7 m (List.replicate l.length false) m.length) s=true:=by
  rw [rX (by rw [AU,List.length_replicate];exact hs)];exact h1 _ (List.getElem_mem _)
 rcases KR m _ m.length s h2 with h|⟨e,h3,h4⟩
 ·unfold dD at h;rw [List.getD_eq_getElem?_getD,List.getElem?_replicate] at h;split at h <;> cases h
 have hd:=GD l m h3;rcases h4 with h4|h4
 ·have:=SV (D:=bD l m m.length) (s:=s) (j:=2*m.length) (i:=2*e) (by omega) (by rw [hd.1,h4];rfl);intro h0;rw [List.eq_nil_of_length_eq_zero h0] at this;cases this
 have:=SV (D:=bD l m m.length) (s:=s) (j:=2*m.length) (i:=2*e+1) (by omega) (by rw [hd.2,h4];rfl);intro h0;rw [List.eq_nil_of_length_eq_zero h0] at this;cases this
theorem EZ (m:Nat):∀ (k:Nat) (L:List Int) (i j:Nat),(bW m k L i j).length=L.length
 |0,L,i,j=>rfl
 |k+1,L,i,j=>by
  unfold bW;split
  ·exact jE _ _ _ _
  split
  ·rw [EZ m k,jE]
  rw [EZ m k,jE]
theorem WK (L:List Int)(a:Nat):∀ t,(ZY L a t).length=L.length
 |0=>rfl
 |t+1=>by unfold ZY;rw [iU];exact WK L a t
theorem VU (L:List Int)(a:Nat):∀ t,(ZG L a t).length=L.length
 |0=>rfl
 |t+1=>by unfold ZG;rw [iU];exact VU L a t
theorem rZ {c:Prop}[Decidable c]{a b:List Int}{n:Nat}(ha:a.length=n)(hb:b.length=n):(if c then a else b).length=n:=by
 split
 ·exact ha
 exact hb
theorem AJ (D:List Dt):∀ (k:Nat) (L:List Int) (a m b:Nat),(aZ D k L a m b).length=L.length
 |0,L,_,_,_=>rfl
 |k+1,L,a,m,b=>by
  unfold aZ;refine rZ (WK _ _ _) (rZ (VU _ _ _) ?_);simp only;have h1:(if stM D L a m b<m∧m<(a+b) / 2+m - stM D L a m b then bW m (m - stM D L a m b+((a+b) / 2+m - stM D L a m b - m)) L (m - stM D L a m b) ((a+b) / 2+m - stM D L a m b - m) else L).length=L.length:=rZ (EZ _ _ _ _ _) rfl;have h2:(if a<stM D L a m b∧stM D L a m b<(a+b) / 2 then aZ D k (if stM D L a m b<m∧m<(a+b) / 2+m - stM D L a m b then bW m (m - stM D L a m b+((a+b) / 2+m - stM D L a m b - m)) L (m - stM D L a m b) ((a+b) / 2+m - stM D L a m b - m) else L) a (stM D L a m b) ((a+b) / 2) else (if stM D L a m b<m∧m<(a+b) / 2+m - stM D L a m b then bW m (m - stM D L a m b+((a+b) / 2+m - stM D L a m b - m)) L (m - stM D L a m b) ((a+b) / 2+m - stM D L a m b - m) else L)).length=L.length:=rZ ((AJ D k _ _ _ _).trans h1) h1;exact rZ ((AJ D k _ _ _ _).trans h2) h2
theorem PN (D:List Dt)(n:Nat):∀ (k:Nat) (L:List Int) (a:Nat),(pL D n k L a).1.length=L.length
 |0,L,a=>rfl
 |k+1,L,a=>by
  unfold pL;split
  ·rw [PN D n k,sW]
  rfl
theorem OT (D:List Dt)(f n bs:Nat):∀ (k:Nat) (L:List Int) (a:Nat),(sQ D f n bs k L a).1.length=L.length
 |0,L,a=>rfl
 |k+1,L,a=>by
  unfold sQ;split
  ·rw [OT D f n bs k,AJ]
  rfl
theorem aCL (D:List Dt)(f n bs:Nat)(r:List Int × Nat):(xV D f n bs r).length=r.1.length:=by
 unfold xV;exact rZ (AJ _ _ _ _ _ _) rfl
theorem OQ (D:List Dt)(f n:Nat):∀ (k:Nat) (L:List Int) (bs:Nat),(FC D f n k L bs).length=L.length
 |0,L,bs=>rfl
 |k+1,L,bs=>by
  unfold FC;refine rZ ?_ rfl;rw [OQ D f n k,aCL,OT]
theorem PH (D:List Dt)(f:Nat)(L:List Int):(sP D f L).length=L.length:=by
 unfold sP;rw [OQ,sW,PN]
def srN (D:List Dt)(ls:List (List Int)):Nat→List (List Int)
 |0=>ls
 |i+1=>(srN D ls i).set i (sP D 1000 (bR ls i))
theorem rD (D:List Dt)(ls:List (List Int)):∀ i,(srN D ls i).length=ls.length
 |0=>rfl
 |i+1=>by unfold srN;rw [List.length_set];exact rD D ls i
theorem S1 (D:List Dt)(ls:List (List Int)):∀ {i:Nat},i≤ls.length→∀ s,bR (srN D ls i) s=if s<i then sP D 1000 (bR ls s) else bR ls s
 |0,h,s=>by rw [if_neg (by omega)];rfl
 |i+1,h,s=>by
  have ih:=S1 D ls (i:=i) (by omega) s;unfold srN;rw [vT _ (by rw [rD];omega),ih];by_cases e:s=i
  ·rw [if_pos e,if_pos (by omega),e]
  rw [if_neg e];by_cases e2:s<i
  ·rw [if_pos e2,if_pos (by omega)]
  rw [if_neg e2,if_neg (by omega)]
theorem aBg {s:Nat}{ls ls':List (List Int)}(hl:ls'.length=ls.length)(h:∀ i,i<ls.length→(bR ls' i).length=(bR ls i).length):tC s ls'=tC s ls:=by
 unfold tC;rw [hl];refine List.map_congr_left fun i hi=>?_;unfold tV;rw [h i (List.mem_range.1 hi)]
theorem PA {l:List Pt}{m:List Ed}{c1 c2:Nat}{n:Int}{k:Nat}{D:List Dt}{s:Nat}{ls:List (List Int)}{e0 e:List (Nat × Value)}{h:Heap}{nx:Nat}{I:KS}(hn:ls.length≤1000)(hs:ls.length≤s)(hI:I e0 (gK l m c1 c2 n k D s ls) 2000)
  (he:∀ p∈e0,look e p.1=some (jX id p.2)∧C3 2000 p.2) (hb:∀ p∈sG l m c1 c2 n k D,look h p.1=some p.2) (h5:look h 5=some (.cells true false 1 (tC s ls)))
  (ht:∀ i,i<ls.length→(bR ls i).length≠0→look h (i+1000)=some (ob (bR ls i))):rM 2 I e h nx:=by
 refine⟨e0,gK l m c1 c2 n k D s ls,2000,id,hI,fun t v hv=>he _ (bF hv),fun k' o hk=>?_,fun k' k'' _ _ _ _ h=>h,fun _ _=>rfl,by omega⟩;rcases vU (bF hk) with hm|hm|⟨h7,hm⟩|⟨i,h1,h3,h4,hm⟩
 ·obtain⟨a1,_,a2⟩:=AZ (ρ:=id) (fun _ _=>rfl) (N:=2000) (by omega) _ hm;simp only at a1 a2;exact⟨by omega,o,hb _ hm,a2⟩
 ·injection hm with e1 e2;subst e1 e2;refine⟨by omega,.cells true false 1 (tC s ls),h5,rfl,rfl,rfl,EV (lL _ _) fun i hi=>CG hi,KW (by omega) (by omega)⟩
 ·exfalso;refine h7 ?_;unfold bR;rw [List.getD_eq_getElem?_getD,List.getElem?_eq_none hs];rfl
 injection hm with e1 e2;subst e1 e2;exact⟨by omega,_,ht i h1 h4,A6⟩
def aA8 (l:List Pt)(m:List Ed)(c1 c2:Nat)(n:Int)(k:Nat)(D:List Dt)(ls:List (List Int)):Heap :=
 (4,.cells true false 1 (pY l.length m.length c1 c2 n (.slice (some ⟨6,0,none⟩) k k) (.slice (some ⟨5,0,none⟩) l.length l.length) aR))::(6,.cells true false 5 (flat sH.fl D))::(5,.cells true false 1 (tC ls.length ls)) ::
 (0,.cells false true aT.sz (flat aT.fl l))::(1,.cells false true aW.sz (flat aW.fl m))::tH ls.length ls ls.length
theorem aCs {l:List Pt}{m:List Ed}{c1 c2:Nat}{n:Int}{k:Nat}{D:List Dt}{s:Nat}{ls:List (List Int)}{h:Heap}{nx:Nat}(hn:ls.length≤1000)(hs:ls.length=s)(hh:h=gK l m c1 c2 n k D s ls):L8 (.pointer (some ⟨4,0,none⟩)) (aA8 l m c1 c2 n k D ls) 2000 (.pointer (some ⟨4,0,none⟩)) h nx:=by
 subst hs hh;have hsub:∀ p,p∈aA8 l m c1 c2 n k D ls→p∈gK l m c1 c2 n k D ls.length ls:=by
  intro p hp;unfold aA8 at hp;unfold gK;simp only [List.mem_cons,List.mem_append] at hp ⊢;rcases hp with hp|hp|hp|hp|hp|hp
  ·exact .inr (.inr (.inr (.inl hp)))
  ·exact .inl hp
  ·exact .inr (.inl hp)
  ·exact .inr (.inr (.inr (.inr (.inr (.inl hp)))))
  ·exact .inr (.inr (.inr (.inr (.inr (.inr (.inl hp))))))
  exact .inr (.inr (.inr (.inr (.inr (.inr (.inr (.inr hp)))))))
 have h5:look (gK l m c1 c2 n k D ls.length ls) 5=some (.cells true false 1 (tC ls.length ls)):=rfl;have hb:∀ p∈sG l m c1 c2 n k D,look (gK l m c1 c2 n k D ls.length ls) p.1=some p.2:=by
  unfold sG;exact List.forall_mem_cons.2 ⟨rfl,List.forall_mem_cons.2 ⟨rfl,List.forall_mem_cons.2 ⟨rfl,List.forall_mem_cons.2 ⟨rfl,List.forall_mem_cons.2 ⟨rfl,List.forall_mem_cons.2 ⟨rfl,fun _ h=>(by cases h)⟩⟩⟩⟩⟩⟩
 have h7:(bR ls ls.length).length=0:=by
  unfold bR;rw [List.getD_eq_getElem?_getD,List.getElem?_eq_none (Nat.le_refl _)];rfl
 refine⟨id,fun t v hv=>?_,fun k' o hk=>?_,fun k' k'' _ _ _ _ h=>h,fun _ _=>rfl,by omega⟩
 ·have hm:=bF hv;simp only [List.mem_cons,List.not_mem_nil,or_false] at hm;injection hm with e1 e2;subst e1 e2;exact⟨rfl,Nat.le_of_ble_eq_true rfl,rfl⟩
 ·rcases vU (hsub _ (bF hk)) with hm|hm|⟨h8,hm⟩|⟨i,h1,h3,h4,hm⟩
  ·obtain⟨a1,_,a2⟩:=AZ (ρ:=id) (fun _ _=>rfl) (N:=2000) (by omega) _ hm;simp only at a1 a2;exact⟨by omega,o,hb _ hm,a2⟩
  ·injection hm with e1 e2;subst e1 e2;refine⟨by omega,.cells true false 1 (tC ls.length ls),h5,rfl,rfl,rfl,EV (lL _ _) fun i hi=>CG hi,KW (by omega) (by omega)⟩
  ·exact absurd h7 h8
  injection hm with e1 e2;subst e1 e2;refine⟨by omega,_,?_,A6⟩;unfold gK
  repeat rw [bK (by omega)]
  rw [show ZA (bR ls ls.length)=[] from if_pos h7];exact lP h3 h4 h1
theorem lS {ls:List (List Int)}{s:Nat}(h:ls.length≤s):ZA (bR ls s)=[]:=by
 unfold bR;rw [List.getD_eq_getElem?_getD,List.getElem?_eq_none h];rfl
def outs (l:List Pt)(m:List Ed):List (List Int):=srN (bD l m m.length) (qX l.length (bD l m m.length) (2*m.length)) l.length
theorem gY (l:List Pt)(m:List Ed):(outs l m).length=l.length:=by unfold outs;rw [rD,oH]
theorem K7 (s:Nat)(ls:List (List Int)):∀ n,YH (tH s ls n)
 |0=>fun j o hj=>by cases hj
 |n+1=>by
  unfold tH;split
  ·exact K7 s ls n
  exact aY (K7 s ls n)
theorem aEL {n:Nat}{D:List Dt}{l:List Int}{c:Nat}(h1:l.length≤n)(h2:l.length≤1000000)(h3:fI D l=true)(h4:fV D=true):I5 n D l [] c=some (true,sP D n l):=by
 unfold I5;simp only [h1,h2,h3,h4,decide_true,Bool.and_self]
end Go.Aw
end
