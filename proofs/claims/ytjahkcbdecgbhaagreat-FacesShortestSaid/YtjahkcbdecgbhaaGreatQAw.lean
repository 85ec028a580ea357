/-
  Parts of a proof. No condition.
-/
import Derived.Test.YtjahkcbdecgbhaaGreatQAv
set_option linter.unusedSimpArgs false
set_option linter.unusedVariables false
noncomputable section
namespace Go.Aw
set_option maxRecDepth 100000
set_option maxHeartbeats 4000000
def dA (l:List Pt)(m:List Ed)(i:Nat):Dt:=⟨(kA l (cX m i).b).1 - (kA l (cX m i).a).1,(kA l (cX m i).b).2 - (kA l (cX m i).a).2,2*i,(cX m i).a,(cX m i).b⟩
def dB (l:List Pt)(m:List Ed)(i:Nat):Dt:=⟨(kA l (cX m i).a).1 - (kA l (cX m i).b).1,(kA l (cX m i).a).2 - (kA l (cX m i).b).2,2*i+1,(cX m i).b,(cX m i).a⟩
def aV (l:List Pt)(m:List Ed):Nat→List Dt
 |0=>[]
 |i+1=>aV l m i++[dA l m i,dB l m i]
theorem bM (l:List Pt)(m:List Ed):∀ i,(aV l m i).length=2*i
 |0=>rfl
 |i+1=>by rw [aV,List.length_append,bM];rfl
def xU (m:List Ed)(c2:Nat)(j:Int):List (Nat × Value):=[(1,.pointer (some ⟨2,0,none⟩)),(3,.pointer (some ⟨3,0,none⟩)),(20,.slice (some ⟨1,0,none⟩) m.length c2),(21,iv m.length),(22,iv j)]
def xI (l:List Pt)(m:List Ed)(c1 c2:Nat)(n:Int)(k:Nat)(D:List Dt):Heap :=
 (6,.cells true false 5 (flat qQ.fl D))::(5,.cells true false 1 (rep l.length [aP]))::(3,.cells true false 1 [.pointer (some ⟨4,0,none⟩)])::(4,.cells true false 1 (pF l.length m.length c1 c2 n (.slice (some ⟨6,0,none⟩) k k) (.slice (some ⟨5,0,none⟩) l.length l.length) aP)) ::
 (2,bP l.length m.length c1 c2 n)::aH aZ aY l m
theorem bm2 {k:Nat}{X Y:Prop}(h:Y):(match (generalizing:=false) Nat.ble (k+2) k with|true=>X|false=>Y):=by
 cases hb:Nat.ble (k+2) k with
 |false=>exact h
 |true=>have:=Nat.le_of_ble_eq_true hb;omega
theorem aCh {i N s:Nat}{p:Prop}(hN:N=i*s)(hi:i+2≤1000000000)
  (h:aA.A.andB (aA.A.andB ((i+2).ble 1000000000) ((0+i*s).ble N)) (aA.A.andB ((0+i*s).beq N) (Nat.beq s s))=false):p:=by
 exfalso;have h1:(i+2).ble 1000000000=true:=Nat.ble_eq_true_of_le hi;have h2:(0+i*s).ble N=true:=Nat.ble_eq_true_of_le (by omega);have h3:(0+i*s).beq N=true:=(by rw [hN,Nat.zero_add];exact Nat.beq_refl _);rw [h1,h2,h3,Nat.beq_refl] at h;cases h
theorem P9 {α:Type}(E:El α)(o:List α)(x y:α){n:Nat}(hn:n=o.length):((flat E.fl o).drop 0).take (n*E.sz)++(E.fl x++E.fl y)=flat E.fl (o++[x,y]):=by
 subst hn;rw [List.drop_zero,← bJ E o,List.take_length,rL];simp [flat]
theorem qA {l:List Pt}{m:List Ed}{n:Int}(h:dH l m n=true){i:Nat}(hi:i<l.length):0≤(tQ l i).1∧(tQ l i).1≤10000∧0≤(tQ l i).2∧(tQ l i).2≤10000:=by
 simp only [dH,Bool.and_eq_true] at h;have h1:=fH h.2.1 hi;simp only [QM,cG,Bool.and_eq_true,decide_eq_true_eq] at h1;omega
theorem aHe:dZ aFo:=LA (m7.cons (aEI 1000) .nil).look
end Go.Aw
end

noncomputable section
namespace Go.Aw
set_option maxRecDepth 100000
def bK (ls:List (List Int))(i:Nat):List Int:=ls.getD i []
theorem tB (ls:List (List Int)){s:Nat}(hs:s<ls.length)(x:List Int)(i:Nat):bK (ls.set s x) i=if i=s then x else bK ls i:=by
 unfold bK;rw [List.getD_eq_getElem?_getD,List.getD_eq_getElem?_getD,List.getElem?_set];by_cases h:s=i
 ·subst h;simp [hs]
 ·rw [if_neg h,if_neg (fun e=>h e.symm)]
def tN (s i:Nat):Nat:=if i=s then 7 else i+1000
def tV (q:Nat)(l:List Int):Value:=if l.length=0 then aP else .slice (some ⟨q,0,none⟩) l.length l.length
def tC (s:Nat)(ls:List (List Int)):List Value:=(List.range ls.length).map fun i=>tV (tN s i) (bK ls i)
theorem kD (s:Nat)(ls:List (List Int)):(tC s ls).length=ls.length:=by simp [tC]
theorem BI {s:Nat}{ls:List (List Int)}{i:Nat}(hi:i<ls.length):(tC s ls)[i]? = some (tV (tN s i) (bK ls i)):=by
 unfold tC;rw [List.getElem?_map,List.getElem?_range hi];rfl
theorem EB {s:Nat}{ls:List (List Int)}{i o:Nat}(hi:i<ls.length)(ho:o=i*1):nth (tC s ls) o=some (tV (tN s i) (bK ls i)):=by
 rw [rV,ho,Nat.mul_one];exact BI hi
theorem M6 {cs:List Value}{i o:Nat}{v:Value}(ho:o=i)(hi:i<cs.length):dE cs o [v]=cs.set i v:=by
 subst ho;apply List.ext_getElem?;intro j;rw [OL (by simp;omega),List.getElem?_set];by_cases e:o=j
 ·subst e;rw [if_pos ⟨Nat.le_refl _,by simp⟩,if_pos rfl,if_pos hi,Nat.sub_self];rfl
 ·rw [if_neg (by simp;omega),if_neg e]
def ob (L:List Int):aT:=.cells true false 1 (flat aL.fl L)
def tH (s:Nat)(ls:List (List Int)):Nat→Heap
 |0=>[]
 |n+1=>if n=s∨(bK ls n).length=0 then tH s ls n else (n+1000,ob (bK ls n))::tH s ls n
theorem AL {s:Nat}{ls:List (List Int)}:∀ {n:Nat} {p:Nat × aT},p∈tH s ls n→∃ i,i<n∧i≠s∧(bK ls i).length≠0∧p=(i+1000,ob (bK ls i))
 |0,p,h=>by cases h
 |n+1,p,h=>by
  unfold tH at h;split at h
  ·obtain⟨i,h1,h2⟩:=AL h;exact⟨i,by omega,h2⟩
  ·rename_i hc;rcases List.mem_cons.1 h with rfl|h
   ·exact⟨n,Nat.lt_succ_self n,fun e=>hc (.inl e),fun e=>hc (.inr e),rfl⟩
   ·obtain⟨i,h1,h2⟩:=AL h;exact⟨i,by omega,h2⟩
theorem bA {α:Type}{k n:Nat}{v:α}{r:List (Nat × α)}(h:k≠n):look ((k,v)::r) n=look r n:=by
 rw [aC];split
 ·rename_i hb;exact absurd (beq_true hb) h
 ·rfl
theorem jW {s:Nat}{ls:List (List Int)}{i:Nat}(h1:i≠s)(h2:(bK ls i).length≠0):∀ {n:Nat},i<n→look (tH s ls n) (i+1000)=some (ob (bK ls i))
 |0,h=>by omega
 |n+1,h=>by
  unfold tH;by_cases e:i=n
  ·subst e;rw [if_neg (by rintro (e|e);exact h1 e;exact h2 e),aC,Nat.beq_refl]
  ·split
   ·exact jW h1 h2 (by omega)
   ·rw [bA (by omega)];exact jW h1 h2 (by omega)
theorem aCG {s:Nat}{ls:List (List Int)}{k n:Nat}(h:k<1000∨1000+n≤k):look (tH s ls n) k=none:=by
 cases hl:look (tH s ls n) k with
 |none=>rfl
 |some o =>
  obtain⟨i,h1,_,_,h2⟩:=AL (bF hl);injection h2 with h2 _;omega
theorem ZL {s:Nat}{ls:List (List Int)}:∀ {n:Nat},(∀ i,i<n→(bK ls i).length=0)→tH s ls n=[]
 |0,_=>rfl
 |n+1,h=>by
  unfold tH;rw [if_pos (.inr (h n (Nat.lt_succ_self n)))];exact ZL fun i hi=>h i (by omega)
def XN (L:List Int):Heap:=if L.length=0 then [] else [(7,ob L)]
def fP (l:List Pt)(m:List Ed)(c1 c2:Nat)(n:Int)(k:Nat)(D:List Dt)(s:Nat)(ls:List (List Int)):Heap :=
 (6,.cells true false 5 (flat qQ.fl D))::(5,.cells true false 1 (tC s ls))::(3,.cells true false 1 [.pointer (some ⟨4,0,none⟩)])::(4,.cells true false 1 (pF l.length m.length c1 c2 n (.slice (some ⟨6,0,none⟩) k k) (.slice (some ⟨5,0,none⟩) l.length l.length) aP)) ::
 (2,bP l.length m.length c1 c2 n)::(0,.cells false true aZ.sz (flat aZ.fl l))::(1,.cells false true aY.sz (flat aY.fl m))::(XN (bK ls s)++tH s ls ls.length)
def nC (k:Nat)(j:Int):List (Nat × Value):=[(3,.pointer (some ⟨3,0,none⟩)),(89,.slice (some ⟨6,0,none⟩) k k),(90,iv k),(91,iv j)]
theorem aCp {ρ:Nat→Nat}{q a b:Nat}:bR ρ (.slice (some ⟨q,0,none⟩) a b)=.slice (some ⟨ρ q,0,none⟩) a b:=rfl
theorem DN {ρ:Nat→Nat}{q:Nat}{L:List Int}:bR ρ (tV q L)=tV (ρ q) L:=by
 unfold tV;split
 ·rfl
 ·rfl
theorem aId {q n:Nat}{L:List Int}(h:q<n):AB n (tV q L):=by
 unfold tV;split
 ·exact cA rfl
 ·exact⟨h,fun h=>by cases h⟩
theorem JB {s n:Nat}{ls:List (List Int)}(h7:7<n)(hn:ls.length+1000≤n):∀ v∈tC s ls,AB n v:=by
 intro v hv;unfold tC at hv;obtain⟨i,hi,rfl⟩:=List.mem_map.1 hv;have:=List.mem_range.1 hi;refine aId ?_;unfold tN;split <;> omega
def rh2 (s s':Nat):Nat→Nat:=rn [(7,if s'=s then 2002 else s'+1000),(s+1000,2002)]
theorem HX (s s':Nat):rh2 s s' 7=if s'=s then 2002 else s'+1000:=rfl
theorem VN {s s' k:Nat}(h:k<7):rh2 s s' k=k:=by
 unfold rh2 rn;rw [bA (by omega),bA (by omega)];rfl
theorem BL {s s' i:Nat}:rh2 s s' (i+1000)=if i=s then 2002 else i+1000:=by
 unfold rh2 rn;rw [bA (by omega)];by_cases e:i=s
 ·rw [if_pos e,e,aC,Nat.beq_refl]
 ·rw [if_neg e,bA (by omega)];rfl
theorem aIa (s s' i:Nat)(hi:i=s'→s'≠s→i≠s):rh2 s s' (tN s' i)=if i=s then 2002 else i+1000:=by
 unfold tN;by_cases e:i=s'
 ·rw [if_pos e,HX];by_cases e2:s'=s
  ·rw [if_pos e2,if_pos (e.trans e2)]
  ·rw [if_neg e2,if_neg (hi e e2),e]
 ·rw [if_neg e,BL]
def Fx (v:Value):Prop:=(∃ q a b,q<7∧v=.slice (some ⟨q,0,none⟩) a b)∨(∃ q,q<7∧v=.pointer (some ⟨q,0,none⟩))∨gS v=true
theorem Fx.iB {ρ:Nat→Nat}(hρ:∀ k,k<7→ρ k=k){v:Value}(h:Fx v):bR ρ v=v:=by
 rcases h with ⟨q,a,b,hq,rfl⟩|⟨q,hq,rfl⟩|h
 ·rw [aCp,hρ q hq]
 ·show Value.pointer (some ⟨ρ q,0,none⟩)=_;rw [hρ q hq]
 ·exact jM h
theorem Fx.nm {v:Value}{n:Nat}(hn:7≤n)(h:Fx v):AB n v:=by
 rcases h with ⟨q,a,b,hq,rfl⟩|⟨q,hq,rfl⟩|h
 ·exact⟨Nat.lt_of_lt_of_le hq hn,fun h=>by cases h⟩
 ·exact⟨Nat.lt_of_lt_of_le hq hn,rfl⟩
 ·exact cA h
theorem IQ {ρ:Nat→Nat}(hρ:∀ k,k<7→ρ k=k){n:Nat}(hn:7≤n){wr g:Bool}{sz:Nat}{cs:List Value}(h:∀ v∈cs,Fx v):bO ρ n (.cells wr g sz cs) (.cells wr g sz cs):=by
 refine⟨rfl,rfl,rfl,?_,fun v hv=>(h v hv).nm hn⟩
 conv=>lhs;rw [← List.map_id cs]
 exact List.map_congr_left fun v hv=>((h v hv).iB hρ).symm
theorem LV {α:Type}(E:El α)(l:List α):∀ v∈flat E.fl l,Fx v:=fun v hv=>.inr (.inr (aU (aE E l) hv))
theorem YJ {q a b:Nat}(h:q<7):Fx (.slice (some ⟨q,0,none⟩) a b):=.inl ⟨q,a,b,h,rfl⟩
theorem aKF {q:Nat}(h:q<7):Fx (.pointer (some ⟨q,0,none⟩)):=.inr (.inl ⟨q,h,rfl⟩)
theorem aGk {v:Value}(h:gS v=true):Fx v:=.inr (.inr h)
def qK (l:List Pt)(m:List Ed)(c1 c2:Nat)(n:Int)(k:Nat)(D:List Dt):Heap :=
 [(6,.cells true false 5 (flat qQ.fl D)),(3,.cells true false 1 [.pointer (some ⟨4,0,none⟩)]),(4,.cells true false 1 (pF l.length m.length c1 c2 n (.slice (some ⟨6,0,none⟩) k k) (.slice (some ⟨5,0,none⟩) l.length l.length) aP)),
 (2,bP l.length m.length c1 c2 n),(0,.cells false true aZ.sz (flat aZ.fl l)),(1,.cells false true aY.sz (flat aY.fl m))]
theorem xD {ρ:Nat→Nat}(hρ:∀ k,k<7→ρ k=k){N:Nat}(hN:7≤N){l:List Pt}{m:List Ed}{c1 c2:Nat}{n:Int}{k:Nat}{D:List Dt}:∀ p∈qK l m c1 c2 n k D,p.1<7∧p.1≠5∧bO ρ N p.2 p.2:=by
 unfold qK;refine List.forall_mem_cons.2 ⟨⟨Nat.le_of_ble_eq_true rfl,Nat.ne_of_beq_eq_false rfl,IQ hρ hN (LV _ _)⟩,List.forall_mem_cons.2 ⟨⟨Nat.le_of_ble_eq_true rfl,Nat.ne_of_beq_eq_false rfl,IQ hρ hN ?_⟩,List.forall_mem_cons.2 ⟨⟨Nat.le_of_ble_eq_true rfl,Nat.ne_of_beq_eq_false rfl,IQ hρ hN ?_⟩,List.forall_mem_cons.2 ⟨⟨Nat.le_of_ble_eq_true rfl,Nat.ne_of_beq_eq_false rfl,IQ hρ hN ?_⟩,List.forall_mem_cons.2 ⟨⟨Nat.le_of_ble_eq_true rfl,Nat.ne_of_beq_eq_false rfl,IQ hρ hN (LV _ _)⟩,List.forall_mem_cons.2 ⟨⟨Nat.le_of_ble_eq_true rfl,Nat.ne_of_beq_eq_false rfl,IQ hρ hN (LV _ _)⟩,fun _ h=>(by cases h)⟩⟩⟩⟩⟩⟩
 ·exact List.forall_mem_cons.2 ⟨aKF (by decide),fun _ h=>(by cases h)⟩
 ·exact List.forall_mem_cons.2 ⟨YJ (by decide),List.forall_mem_cons.2 ⟨YJ (by decide),List.forall_mem_cons.2 ⟨aGk rfl,List.forall_mem_cons.2 ⟨YJ (by decide),List.forall_mem_cons.2 ⟨YJ (by decide),List.forall_mem_cons.2 ⟨aGk rfl,fun _ h=>(by cases h)⟩⟩⟩⟩⟩⟩
 ·exact List.forall_mem_cons.2 ⟨YJ (by decide),List.forall_mem_cons.2 ⟨YJ (by decide),List.forall_mem_cons.2 ⟨aGk rfl,fun _ h=>(by cases h)⟩⟩⟩
theorem tY {l:List Pt}{m:List Ed}{c1 c2:Nat}{n:Int}{k:Nat}{D:List Dt}{s:Nat}{ls:List (List Int)}{p:Nat × aT}(h:p∈fP l m c1 c2 n k D s ls) :
  p∈qK l m c1 c2 n k D∨p=(5,.cells true false 1 (tC s ls))∨((bK ls s).length≠0∧p=(7,ob (bK ls s)))∨∃ i,i<ls.length∧i≠s∧(bK ls i).length≠0∧p=(i+1000,ob (bK ls i)):=by
 unfold fP at h;unfold qK;simp only [List.mem_cons,List.mem_append,List.not_mem_nil,or_false] at h ⊢;rcases h with h|h|h|h|h|h|h|h|h
 ·exact .inl (.inl h)
 ·exact .inr (.inl h)
 ·exact .inl (.inr (.inl h))
 ·exact .inl (.inr (.inr (.inl h)))
 ·exact .inl (.inr (.inr (.inr (.inl h))))
 ·exact .inl (.inr (.inr (.inr (.inr (.inl h)))))
 ·exact .inl (.inr (.inr (.inr (.inr (.inr h)))))
 ·unfold XN at h;split at h
  ·cases h
  ·rename_i hc;exact .inr (.inr (.inl ⟨hc,by simpa using h⟩))
 ·obtain⟨i,h1,h2,h3,h4⟩:=AL h;exact .inr (.inr (.inr ⟨i,h1,h2,h3,h4⟩))
theorem z8 {ρ:Nat→Nat}{n:Nat}{L:List Int}:bO ρ n (ob L) (ob L):=aK (aE _ _)
theorem EA {ρ:Nat→Nat}{s':Nat}{ls':List (List Int)}{cs:List Value}(hl:cs.length=ls'.length)(h:∀ i,i<ls'.length→cs[i]? = some (tV (ρ (tN s' i)) (bK ls' i))):cs=(tC s' ls').map (bR ρ):=by
 apply List.ext_getElem?;intro i;by_cases hi:i<ls'.length
 ·rw [h i hi,List.getElem?_map,BI hi];simp only [Option.map_some,DN]
 ·rw [List.getElem?_eq_none (by omega),List.getElem?_eq_none (by rw [List.length_map,kD];omega)]
section
variable {l:List Pt}{m:List Ed}{c1 c2:Nat}{n:Int}{k:Nat}{D:List Dt}{s s' q:Nat}{ls:List (List Int)}{x j:Int}{e:List (Nat × Value)}{h:Heap}{nx:Nat}{I:KS}
theorem Z1 {ρ:Nat→Nat}(hρ:∀ k,k<7→ρ k=k)(he:∀ p∈nC k j,look e p.1=some p.2):∀ t v,look (nC k j) t=some v→look e t=some (iB ρ v)∧A0 2000 v:=by
 intro t v hv;have hm:=bF hv;have h1:=he _ hm;unfold nC at hm;simp only [List.mem_cons,List.not_mem_nil,or_false] at hm;rw [h1];rcases hm with hm|hm|hm|hm <;> (injection hm with _ hm;subst hm)
 ·exact⟨by show some (Value.pointer (some ⟨3,0,none⟩))=some (Value.pointer (some ⟨ρ 3,0,none⟩));rw [hρ 3 (by decide)],by decide,rfl⟩
 ·exact⟨by show some (Value.slice (some ⟨6,0,none⟩) k k)=some (Value.slice (some ⟨ρ 6,0,none⟩) k k);rw [hρ 6 (by decide)],by decide,fun h=>by cases h⟩
 ·exact⟨by rw [iB,fZ rfl],cY rfl⟩
 ·exact⟨by rw [iB,fZ rfl],cY rfl⟩
theorem aFl (hs:s<ls.length)(hn:ls.length≤1000)(hI:I (nC k j) (fP l m c1 c2 n k D s' (ls.set s (bK ls s++[x]))) 2000)(he:∀ p∈nC k j,look e p.1=some p.2)
  (hb:∀ p∈qK l m c1 c2 n k D,look h p.1=some p.2) (hq:q=(bK ls s).length+1) (h5:look h 5=some (.cells true false 1 ((tC s ls).set s (.slice (some ⟨2002,0,none⟩) q q))))
  (h2:look h 2002=some (ob (bK ls s++[x]))) (ht:∀ i,i<ls.length→i≠s→(bK ls i).length≠0→look h (i+1000)=some (ob (bK ls i))):qU 2 I e h nx:=by
 have hat:∀ i,bK (ls.set s (bK ls s++[x])) i=if i=s then bK ls s++[x] else bK ls i:=tB ls hs _
 have hl:(ls.set s (bK ls s++[x])).length=ls.length:=List.length_set;have hρ:∀ k,k<7→rh2 s s' k=k:=fun k hk=>VN hk;generalize ls.set s (bK ls s++[x])=ls' at hI hat hl;refine⟨nC k j,fP l m c1 c2 n k D s' ls',2000,rh2 s s',hI,Z1 hρ he,?_,?_,fun k hk=>VN (by omega),by omega⟩
 ·intro k' o hk;rcases tY (bF hk) with hm|hm|⟨h7,hm⟩|⟨i,h1,h3,h4,hm⟩
  ·obtain⟨a1,_,a2⟩:=xD hρ (N:=2000) (by omega) _ hm;simp only at a1 a2;exact⟨by omega,o,by rw [hρ k' a1];exact hb _ hm,a2⟩
  ·injection hm with e1 e2;subst e1 e2;refine⟨by omega,.cells true false 1 ((tC s ls).set s (.slice (some ⟨2002,0,none⟩) q q)),by rw [hρ 5 (by omega)];exact h5,rfl,rfl,rfl,EA (by rw [List.length_set,kD,hl]) fun i hi=>?_,JB (by omega) (by omega)⟩;rw [hl] at hi;rw [aIa s s' i (fun e1 e2 e3=>e2 (e1.symm.trans e3)),List.getElem?_set,hat];by_cases e1:s=i
   ·subst e1;rw [if_pos rfl,if_pos rfl,if_pos rfl,if_pos (by rw [kD];exact hi)];unfold tV;rw [if_neg (by simp),List.length_append,hq];rfl
   ·rw [if_neg e1,if_neg (fun e=>e1 e.symm),if_neg (fun e=>e1 e.symm),BI hi];unfold tN;rw [if_neg (fun e=>e1 e.symm)]
  ·injection hm with e1 e2;subst e1 e2;rw [HX,hat];rw [hat] at h7;by_cases e1:s'=s
   ·rw [if_pos e1,if_pos e1];exact⟨by omega,_,h2,z8⟩
   ·rw [if_neg e1,if_neg e1];rw [if_neg e1] at h7;have hs':s'<ls.length:=by
     refine Decidable.byContradiction fun hc=>h7 ?_;unfold bK;rw [List.getD_eq_getElem?_getD,List.getElem?_eq_none (by omega)];rfl
    exact⟨by omega,_,ht s' hs' e1 h7,z8⟩
  ·injection hm with e1 e2;subst e1 e2;rw [hl] at h1;rw [BL,hat];rw [hat] at h4;by_cases e1:i=s
   ·rw [if_pos e1,if_pos e1];exact⟨by omega,_,h2,z8⟩
   ·rw [if_neg e1,if_neg e1];rw [if_neg e1] at h4;exact⟨by omega,_,ht i h1 e1 h4,z8⟩
 ·have hc:∀ {k' o},look (fP l m c1 c2 n k D s' ls') k'=some o→k'<7∨(k'=7∧(s'≠s→s'<ls.length))∨∃ i,i<ls.length∧i≠s'∧k'=i+1000:=by
   intro k' o hk;rcases tY (bF hk) with hm|hm|⟨h7,hm⟩|⟨i,h1,h3,h4,hm⟩
   ·exact .inl (xD hρ (N:=2000) (by omega) _ hm).1
   ·injection hm with e1 e2;exact .inl (by omega)
   ·injection hm with e1 e2;refine .inr (.inl ⟨e1,fun e2=>Decidable.byContradiction fun hc=>h7 ?_⟩);rw [hat,if_neg e2];unfold bK;rw [List.getD_eq_getElem?_getD,List.getElem?_eq_none (by omega)];rfl
   ·injection hm with e1 e2;exact .inr (.inr ⟨i,by omega,h3,e1⟩)
  intro k1 k2 o1 o2 hk1 hk2 heq;rcases hc hk1 with a1|⟨a1,a2⟩|⟨i1,a1,a2,a3⟩ <;> rcases hc hk2 with b1|⟨b1,b2⟩|⟨i2,b1,b2,b3⟩
  ·rw [hρ _ a1,hρ _ b1] at heq;exact heq
  ·rw [hρ _ a1,b1,HX] at heq;split at heq <;> omega
  ·rw [hρ _ a1,b3,BL] at heq;split at heq <;> omega
  ·rw [hρ _ b1,a1,HX] at heq;split at heq <;> omega
  ·omega
  ·rw [a1,b3,HX,BL] at heq;split at heq <;> split at heq <;> omega
  ·rw [hρ _ b1,a3,BL] at heq;split at heq <;> omega
  ·rw [b1,a3,HX,BL] at heq;split at heq <;> split at heq <;> omega
  ·rw [a3,b3,BL,BL] at heq;split at heq <;> split at heq <;> omega
end
theorem O5 {A B:List Dt}{i:Nat}(h:i<A.length):bV (A++B) i=bV A i:=by
 unfold bV;rw [List.getD_eq_getElem?_getD,List.getD_eq_getElem?_getD,List.getElem?_append_left h]
theorem MO {A B:List Dt}{i j:Nat}(h:i=A.length+j):bV (A++B) i=bV B j:=by
 unfold bV;rw [List.getD_eq_getElem?_getD,List.getD_eq_getElem?_getD,List.getElem?_append_right (by omega),show i - A.length=j by omega]
theorem F9 (l:List Pt)(m:List Ed):∀ {N i:Nat},i<N→bV (aV l m N) (2*i)=dA l m i∧bV (aV l m N) (2*i+1)=dB l m i
 |0,i,h=>by omega
 |N+1,i,h=>by
  have hl:=bM l m N;unfold aV;by_cases e:i=N
  ·subst e;rw [MO (j:=0) (by omega),MO (j:=1) (by omega)];exact⟨rfl,rfl⟩
  ·rw [O5 (by omega),O5 (by omega)];exact F9 l m (by omega)
theorem lQ {l:List Pt}{m:List Ed}{N i:Nat}(h:i<2*N):(i % 2=0∧bV (aV l m N) i=dA l m (i / 2))∨(i % 2=1∧bV (aV l m N) i=dB l m (i / 2)):=by
 have:=F9 l m (N:=N) (i:=i / 2) (by omega);by_cases e:i % 2=0
 ·left;rw [show 2*(i / 2)=i by omega] at this;exact⟨e,this.1⟩
 ·right;rw [show 2*(i / 2)+1=i by omega] at this;exact⟨by omega,this.2⟩
theorem lK {l:List Pt}{m:List Ed}(hM:YT l m=true){i:Nat}(h:i<2*m.length):0≤(bV (aV l m m.length) i).fr∧(bV (aV l m m.length) i).fr<l.length∧0≤(bV (aV l m m.length) i).tt∧(bV (aV l m m.length) i).tt<l.length∧(bV (aV l m m.length) i).no=i:=by
 have he:=zH hM (i:=i / 2) (by omega);rcases lQ (l:=l) (m:=m) h with ⟨e,h1⟩|⟨e,h1⟩
 ·rw [h1];simp only [dA];omega
 ·rw [h1];simp only [dB];omega
theorem aBY {l:List Pt}{m:List Ed}{n:Int}(hok:dH l m n=true)(hM:YT l m=true):fE (aV l m m.length)=true:=by
 refine List.all_eq_true.2 fun d hd=>?_;obtain⟨i,hi,rfl⟩:=List.getElem_of_mem hd;rw [← oA hi];rw [bM] at hi;have he:=zH hM (i:=i / 2) (by omega);have pa:=qA hok (i:=(cX m (i / 2)).a.toNat) (by omega);have pb:=qA hok (i:=(cX m (i / 2)).b.toNat) (by omega);rcases lQ (l:=l) (m:=m) hi with ⟨e,h1⟩|⟨e,h1⟩
 ·rw [h1];unfold wide;simp only [Bool.and_eq_true,decide_eq_true_eq];simp only [eF,dA,kA];omega
 ·rw [h1];unfold wide;simp only [Bool.and_eq_true,decide_eq_true_eq];simp only [eF,dB,kA];omega
def oZ (nP:Nat)(D:List Dt):Nat→List (List Int)
 |0=>List.replicate nP []
 |j+1=>(oZ nP D j).set (bV D j).fr.toNat (bK (oZ nP D j) (bV D j).fr.toNat++[(bV D j).no])
theorem mO (nP:Nat)(D:List Dt):∀ j,(oZ nP D j).length=nP
 |0=>List.length_replicate
 |j+1=>by unfold oZ;rw [List.length_set];exact mO nP D j
theorem DA (nP:Nat)(D:List Dt):∀ (j s:Nat),(∀ i,i<j→(bV D i).fr.toNat<nP)→(bK (oZ nP D j) s).length≤j
 |0,s,_=>by
  show (bK (List.replicate nP []) s).length≤0;unfold bK;rw [List.getD_eq_getElem?_getD,List.getElem?_replicate];split <;> exact Nat.le_refl _
 |j+1,s,h=>by
  unfold oZ;rw [tB _ (by rw [mO];exact h j (Nat.lt_succ_self j))];split
  ·rename_i e;have:=DA nP D j (bV D j).fr.toNat fun i hi=>h i (by omega);rw [List.length_append,List.length_singleton];omega
  ·have:=DA nP D j s fun i hi=>h i (by omega);omega
theorem bm1 {k:Nat}{X Y:Prop}(h:Y):(match (generalizing:=false) Nat.ble (k+1) k with|true=>X|false=>Y):=by
 cases hb:Nat.ble (k+1) k with
 |false=>exact h
 |true=>have:=Nat.le_of_ble_eq_true hb;omega
def sD (nP:Nat)(D:List Dt)(i:Nat):Nat:=if i<D.length then (bV D i).fr.toNat else nP
theorem CR {n i:Nat}:bK (List.replicate n []) i=[]:=by
 unfold bK;rw [List.getD_eq_getElem?_getD,List.getElem?_replicate];split <;> rfl
theorem aHi {n s:Nat}:tC s (List.replicate n [])=List.replicate n aP:=by
 apply List.ext_getElem?;intro i;by_cases hi:i<n
 ·rw [BI (by rw [List.length_replicate];exact hi),List.getElem?_replicate,if_pos hi,CR];rfl
 ·rw [List.getElem?_eq_none (by rw [kD,List.length_replicate];omega),List.getElem?_eq_none (by rw [List.length_replicate];omega)]
theorem UJ (v:Value):∀ n,rep n [v]=List.replicate n v
 |0=>rfl
 |n+1=>by rw [List.replicate_succ,← UJ v n];rfl
theorem aDc {l:List Pt}{m:List Ed}{c1 c2:Nat}{n:Int}{k:Nat}{D:List Dt}{s:Nat}:fP l m c1 c2 n k D s (List.replicate l.length [])=xI l m c1 c2 n k D:=by
 unfold fP xI;rw [aHi,CR,ZL (fun i _=>by rw [CR];rfl),UJ];rfl
def QF (D:List Dt)(s j:Nat):List Int:=((List.range j).filter fun i=>decide ((bV D i).fr.toNat=s)).map fun (i:Nat)=>(i:Int)
theorem CE {nP:Nat}{D:List Dt}:∀ (j:Nat),(∀ i,i<j→(bV D i).fr.toNat<nP∧(bV D i).no=i)→∀ s,bK (oZ nP D j) s=QF D s j
 |0,_,s=>CR
 |j+1,h,s=>by
  have ih:=CE j fun i hi=>h i (by omega);have hj:=h j (Nat.lt_succ_self j);unfold oZ;rw [tB _ (by rw [mO];exact hj.1),ih,ih];unfold QF;rw [List.range_succ,List.filter_append,List.map_append];by_cases e:s=(bV D j).fr.toNat
  ·rw [if_pos e,e,hj.2];congr 1;rw [List.filter_cons_of_pos (by simp)];rfl
  ·rw [if_neg e,List.filter_cons_of_neg (by simpa using fun h=>e h.symm)];simp
theorem LU {D:List Dt}{s j:Nat}{x:Int}(h:x∈QF D s j):∃ i,i<j∧x=i∧(bV D i).fr.toNat=s:=by
 unfold QF at h;obtain⟨i,hi,rfl⟩:=List.mem_map.1 h;obtain⟨h1,h2⟩:=List.mem_filter.1 hi;exact⟨i,List.mem_range.1 h1,rfl,by simpa using h2⟩
theorem RI {D:List Dt}{s j i:Nat}(h:i<j)(hs:(bV D i).fr.toNat=s):(i:Int)∈QF D s j :=
 List.mem_map.2 ⟨i,List.mem_filter.2 ⟨List.mem_range.2 h,by simpa using hs⟩,rfl⟩
theorem yO (k:List Bool)(x:Nat)(i:Nat)(h:dF (k.set x true) i=true):i=x∨dF k i=true:=by
 unfold dF at h ⊢;rw [List.getD_eq_getElem?_getD,List.getElem?_set] at h;by_cases e:x=i
 ·exact .inl e.symm
 ·rw [if_neg e,← List.getD_eq_getElem?_getD] at h;exact .inr h
theorem IK (m:List Ed)(s:List Bool):∀ (i p:Nat),dF (xV m s i) p=true→dF s p=true∨∃ e,e<i∧(p=(cX m e).a.toNat∨p=(cX m e).b.toNat)
 |0,p,h=>.inl h
 |i+1,p,h=>by
  unfold xV at h;rcases yO _ _ _ h with e|h
  ·exact .inr ⟨i,Nat.lt_succ_self i,.inr e⟩
  ·rcases yO _ _ _ h with e|h
   ·exact .inr ⟨i,Nat.lt_succ_self i,.inl e⟩
   ·rcases IK m s i p h with h|⟨e,h1,h2⟩
    ·exact .inl h
    ·exact .inr ⟨e,by omega,h2⟩
theorem TI {l:List Pt}{m:List Ed}{n:Int}(hok:dH l m n=true){s:Nat}(hs:s<l.length):(QF (aV l m m.length) s (2*m.length)).length≠0:=by
 simp only [dH,Bool.and_eq_true] at hok;have h1:=List.all_eq_true.1 hok.2.2.2;have h2:dF (xV m (List.replicate l.length false) m.length) s=true:=by
  rw [vZ (by rw [GM,List.length_replicate];exact hs)];exact h1 _ (List.getElem_mem _)
 rcases IK m _ m.length s h2 with h|⟨e,h3,h4⟩
 ·unfold dF at h;rw [List.getD_eq_getElem?_getD,List.getElem?_replicate] at h;split at h <;> cases h
 ·have hd:=F9 l m h3;rcases h4 with h4|h4
  ·have:=RI (D:=aV l m m.length) (s:=s) (j:=2*m.length) (i:=2*e) (by omega) (by rw [hd.1,h4];rfl);intro h0;rw [List.eq_nil_of_length_eq_zero h0] at this;cases this
  ·have:=RI (D:=aV l m m.length) (s:=s) (j:=2*m.length) (i:=2*e+1) (by omega) (by rw [hd.2,h4];rfl);intro h0;rw [List.eq_nil_of_length_eq_zero h0] at this;cases this
theorem FB (m:Nat):∀ (k:Nat) (L:List Int) (i j:Nat),(bT m k L i j).length=L.length
 |0,L,i,j=>rfl
 |k+1,L,i,j=>by
  unfold bT;split
  ·exact gJ _ _ _ _
  ·split
   ·rw [FB m k,gJ]
   ·rw [FB m k,gJ]
theorem UH (L:List Int)(a:Nat):∀ t,(XQ L a t).length=L.length
 |0=>rfl
 |t+1=>by unfold XQ;rw [gP];exact UH L a t
theorem TX (L:List Int)(a:Nat):∀ t,(WZ L a t).length=L.length
 |0=>rfl
 |t+1=>by unfold WZ;rw [gP];exact TX L a t
theorem pN {c:Prop}[Decidable c]{a b:List Int}{n:Nat}(ha:a.length=n)(hb:b.length=n):(if c then a else b).length=n:=by
 split
 ·exact ha
 ·exact hb
theorem wM (D:List Dt):∀ (k:Nat) (L:List Int) (a m b:Nat),(aS D k L a m b).length=L.length
 |0,L,_,_,_=>rfl
 |k+1,L,a,m,b=>by
  unfold aS;refine pN (UH _ _ _) (pN (TX _ _ _) ?_);simp only;have h1:(if stM D L a m b<m∧m<(a+b) / 2+m - stM D L a m b then bT m (m - stM D L a m b+((a+b) / 2+m - stM D L a m b - m)) L (m - stM D L a m b) ((a+b) / 2+m - stM D L a m b - m) else L).length=L.length:=pN (FB _ _ _ _ _) rfl;have h2:(if a<stM D L a m b∧stM D L a m b<(a+b) / 2 then aS D k (if stM D L a m b<m∧m<(a+b) / 2+m - stM D L a m b then bT m (m - stM D L a m b+((a+b) / 2+m - stM D L a m b - m)) L (m - stM D L a m b) ((a+b) / 2+m - stM D L a m b - m) else L) a (stM D L a m b) ((a+b) / 2) else (if stM D L a m b<m∧m<(a+b) / 2+m - stM D L a m b then bT m (m - stM D L a m b+((a+b) / 2+m - stM D L a m b - m)) L (m - stM D L a m b) ((a+b) / 2+m - stM D L a m b - m) else L)).length=L.length:=pN ((wM D k _ _ _ _).trans h1) h1;exact pN ((wM D k _ _ _ _).trans h2) h2
theorem MU (D:List Dt)(n:Nat):∀ (k:Nat) (L:List Int) (a:Nat),(oH D n k L a).1.length=L.length
 |0,L,a=>rfl
 |k+1,L,a=>by
  unfold oH;split
  ·rw [MU D n k,sU]
  ·rfl
theorem MM (D:List Dt)(f n bs:Nat):∀ (k:Nat) (L:List Int) (a:Nat),(qV D f n bs k L a).1.length=L.length
 |0,L,a=>rfl
 |k+1,L,a=>by
  unfold qV;split
  ·rw [MM D f n bs k,wM]
  ·rfl
theorem aAY (D:List Dt)(f n bs:Nat)(r:List Int × Nat):(vH D f n bs r).length=r.1.length:=by
 unfold vH;exact pN (wM _ _ _ _ _ _) rfl
theorem NQ (D:List Dt)(f n:Nat):∀ (k:Nat) (L:List Int) (bs:Nat),(DX D f n k L bs).length=L.length
 |0,L,bs=>rfl
 |k+1,L,bs=>by
  unfold DX;refine pN ?_ rfl;rw [NQ D f n k,aAY,MM]
theorem PH (D:List Dt)(f:Nat)(L:List Int):(qS D f L).length=L.length:=by
 unfold qS;rw [NQ,sU,MU]
def srN (D:List Dt)(ls:List (List Int)):Nat→List (List Int)
 |0=>ls
 |i+1=>(srN D ls i).set i (qS D 1000 (bK ls i))
theorem pZ (D:List Dt)(ls:List (List Int)):∀ i,(srN D ls i).length=ls.length
 |0=>rfl
 |i+1=>by unfold srN;rw [List.length_set];exact pZ D ls i
theorem QS (D:List Dt)(ls:List (List Int)):∀ {i:Nat},i≤ls.length→∀ s,bK (srN D ls i) s=if s<i then qS D 1000 (bK ls s) else bK ls s
 |0,h,s=>by rw [if_neg (by omega)];rfl
 |i+1,h,s=>by
  have ih:=QS D ls (i:=i) (by omega) s;unfold srN;rw [tB _ (by rw [pZ];omega),ih];by_cases e:s=i
  ·rw [if_pos e,if_pos (by omega),e]
  ·rw [if_neg e];by_cases e2:s<i
   ·rw [if_pos e2,if_pos (by omega)]
   ·rw [if_neg e2,if_neg (by omega)]
theorem aA7 {s:Nat}{ls ls':List (List Int)}(hl:ls'.length=ls.length)(h:∀ i,i<ls.length→(bK ls' i).length=(bK ls i).length):tC s ls'=tC s ls:=by
 unfold tC;rw [hl];refine List.map_congr_left fun i hi=>?_;unfold tV;rw [h i (List.mem_range.1 hi)]
theorem NK {l:List Pt}{m:List Ed}{c1 c2:Nat}{n:Int}{k:Nat}{D:List Dt}{s:Nat}{ls:List (List Int)}{e0 e:List (Nat × Value)}{h:Heap}{nx:Nat}{I:KS}(hn:ls.length≤1000)(hs:ls.length≤s)(hI:I e0 (fP l m c1 c2 n k D s ls) 2000)
  (he:∀ p∈e0,look e p.1=some (iB id p.2)∧A0 2000 p.2) (hb:∀ p∈qK l m c1 c2 n k D,look h p.1=some p.2) (h5:look h 5=some (.cells true false 1 (tC s ls)))
  (ht:∀ i,i<ls.length→(bK ls i).length≠0→look h (i+1000)=some (ob (bK ls i))):qU 2 I e h nx:=by
 refine⟨e0,fP l m c1 c2 n k D s ls,2000,id,hI,fun t v hv=>he _ (bF hv),fun k' o hk=>?_,fun k' k'' _ _ _ _ h=>h,fun _ _=>rfl,by omega⟩;rcases tY (bF hk) with hm|hm|⟨h7,hm⟩|⟨i,h1,h3,h4,hm⟩
 ·obtain⟨a1,_,a2⟩:=xD (ρ:=id) (fun _ _=>rfl) (N:=2000) (by omega) _ hm;simp only at a1 a2;exact⟨by omega,o,hb _ hm,a2⟩
 ·injection hm with e1 e2;subst e1 e2;refine⟨by omega,.cells true false 1 (tC s ls),h5,rfl,rfl,rfl,EA (kD _ _) fun i hi=>BI hi,JB (by omega) (by omega)⟩
 ·exfalso;refine h7 ?_;unfold bK;rw [List.getD_eq_getElem?_getD,List.getElem?_eq_none hs];rfl
 ·injection hm with e1 e2;subst e1 e2;exact⟨by omega,_,ht i h1 h4,z8⟩
def XV (l:List Pt)(m:List Ed)(c1 c2:Nat)(n:Int)(k:Nat)(D:List Dt)(ls:List (List Int)):Heap :=
 (4,.cells true false 1 (pF l.length m.length c1 c2 n (.slice (some ⟨6,0,none⟩) k k) (.slice (some ⟨5,0,none⟩) l.length l.length) aP))::(6,.cells true false 5 (flat qQ.fl D))::(5,.cells true false 1 (tC ls.length ls)) ::
 (0,.cells false true aZ.sz (flat aZ.fl l))::(1,.cells false true aY.sz (flat aY.fl m))::tH ls.length ls ls.length
theorem aA4 {l:List Pt}{m:List Ed}{c1 c2:Nat}{n:Int}{k:Nat}{D:List Dt}{s:Nat}{ls:List (List Int)}{h:Heap}{nx:Nat}(hn:ls.length≤1000)(hs:ls.length=s)(hh:h=fP l m c1 c2 n k D s ls):L6 (.pointer (some ⟨4,0,none⟩)) (XV l m c1 c2 n k D ls) 2000 (.pointer (some ⟨4,0,none⟩)) h nx:=by
 subst hs hh;have hsub:∀ p,p∈XV l m c1 c2 n k D ls→p∈fP l m c1 c2 n k D ls.length ls:=by
  intro p hp;unfold XV at hp;unfold fP;simp only [List.mem_cons,List.mem_append] at hp ⊢;rcases hp with hp|hp|hp|hp|hp|hp
  ·exact .inr (.inr (.inr (.inl hp)))
  ·exact .inl hp
  ·exact .inr (.inl hp)
  ·exact .inr (.inr (.inr (.inr (.inr (.inl hp)))))
  ·exact .inr (.inr (.inr (.inr (.inr (.inr (.inl hp))))))
  ·exact .inr (.inr (.inr (.inr (.inr (.inr (.inr (.inr hp)))))))
 have h5:look (fP l m c1 c2 n k D ls.length ls) 5=some (.cells true false 1 (tC ls.length ls)):=rfl;have hb:∀ p∈qK l m c1 c2 n k D,look (fP l m c1 c2 n k D ls.length ls) p.1=some p.2:=by
  unfold qK;exact List.forall_mem_cons.2 ⟨rfl,List.forall_mem_cons.2 ⟨rfl,List.forall_mem_cons.2 ⟨rfl,List.forall_mem_cons.2 ⟨rfl,List.forall_mem_cons.2 ⟨rfl,List.forall_mem_cons.2 ⟨rfl,fun _ h=>(by cases h)⟩⟩⟩⟩⟩⟩
 have h7:(bK ls ls.length).length=0:=by
  unfold bK;rw [List.getD_eq_getElem?_getD,List.getElem?_eq_none (Nat.le_refl _)];rfl
 refine⟨id,fun t v hv=>?_,fun k' o hk=>?_,fun k' k'' _ _ _ _ h=>h,fun _ _=>rfl,by omega⟩
 ·have hm:=bF hv;simp only [List.mem_cons,List.not_mem_nil,or_false] at hm;injection hm with e1 e2;subst e1 e2;exact⟨rfl,Nat.le_of_ble_eq_true rfl,rfl⟩
 ·rcases tY (hsub _ (bF hk)) with hm|hm|⟨h8,hm⟩|⟨i,h1,h3,h4,hm⟩
  ·obtain⟨a1,_,a2⟩:=xD (ρ:=id) (fun _ _=>rfl) (N:=2000) (by omega) _ hm;simp only at a1 a2;exact⟨by omega,o,hb _ hm,a2⟩
  ·injection hm with e1 e2;subst e1 e2;refine⟨by omega,.cells true false 1 (tC ls.length ls),h5,rfl,rfl,rfl,EA (kD _ _) fun i hi=>BI hi,JB (by omega) (by omega)⟩
  ·exact absurd h7 h8
  ·injection hm with e1 e2;subst e1 e2;refine⟨by omega,_,?_,z8⟩;unfold fP
   repeat rw [bA (by omega)]
   rw [show XN (bK ls ls.length)=[] from if_pos h7];exact jW h3 h4 h1
theorem kP {ls:List (List Int)}{s:Nat}(h:ls.length≤s):XN (bK ls s)=[]:=by
 unfold bK;rw [List.getD_eq_getElem?_getD,List.getElem?_eq_none h];rfl
def outs (l:List Pt)(m:List Ed):List (List Int):=srN (aV l m m.length) (oZ l.length (aV l m m.length) (2*m.length)) l.length
theorem eL (l:List Pt)(m:List Ed):(outs l m).length=l.length:=by unfold outs;rw [pZ,mO]
theorem MH (s:Nat)(ls:List (List Int)):∀ n,X7 (tH s ls n)
 |0=>fun j o hj=>by cases hj
 |n+1=>by
  unfold tH;split
  ·exact MH s ls n
  ·exact aR (MH s ls n)
theorem aDw {n:Nat}{D:List Dt}{l:List Int}{c:Nat}(h1:l.length≤n)(h2:l.length≤1000000)(h3:eO D l=true)(h4:fE D=true):HR n D l [] c=some (true,qS D n l):=by
 unfold HR;simp only [h1,h2,h3,h4,decide_true,Bool.and_self]
end Go.Aw
end
