/-
  Parts of the proof, put together. No condition.
-/
import Derived.Test.YtjahkcbdecgbhaaGreatQBd
set_option linter.unusedSimpArgs false
set_option linter.unusedVariables false
noncomputable section
namespace Go.Aw
set_option maxRecDepth 100000
set_option maxHeartbeats 4000000
def dA (l:List Pt)(m:List Ed)(i:Nat):Dt:=⟨(ptI l (atE m i).b).1 - (ptI l (atE m i).a).1,(ptI l (atE m i).b).2 - (ptI l (atE m i).a).2,2*i,(atE m i).a,(atE m i).b⟩
def dB (l:List Pt)(m:List Ed)(i:Nat):Dt:=⟨(ptI l (atE m i).a).1 - (ptI l (atE m i).b).1,(ptI l (atE m i).a).2 - (ptI l (atE m i).b).2,2*i+1,(atE m i).b,(atE m i).a⟩
def dts (l:List Pt)(m:List Ed):Nat→List Dt
 |0=>[]
 |i+1=>dts l m i++[dA l m i,dB l m i]
theorem dts_len (l:List Pt)(m:List Ed):∀ i,(dts l m i).length=2*i
 |0=>rfl
 |i+1=>by rw [dts,List.length_append,dts_len];rfl
def e153b (m:List Ed)(c2:Nat)(j:Int):List (Nat × Value):=[(1,.pointer (some ⟨2,0,none⟩)),(3,.pointer (some ⟨3,0,none⟩)),(20,.slice (some ⟨1,0,none⟩) m.length c2),(21,iv m.length),(22,iv j)]
def h153b (l:List Pt)(m:List Ed)(c1 c2:Nat)(n:Int)(k:Nat)(D:List Dt):Heap :=
 (6,.cells true false 5 (flat elD.fl D))::(5,.cells true false 1 (rep l.length [nilS]))::(3,.cells true false 1 [.pointer (some ⟨4,0,none⟩)])::(4,.cells true false 1 (wbC l.length m.length c1 c2 n (.slice (some ⟨6,0,none⟩) k k) (.slice (some ⟨5,0,none⟩) l.length l.length) nilS)) ::
 (2,bxM l.length m.length c1 c2 n)::mapH2 elP elE l m
theorem bm2 {k:Nat}{X Y:Prop}(h:Y):(match (generalizing:=false) Nat.ble (k+2) k with|true=>X|false=>Y):=by
 cases hb:Nat.ble (k+2) k with
 |false=>exact h
 |true=>have:=Nat.le_of_ble_eq_true hb;omega
theorem app_no2 {i N s:Nat}{p:Prop}(hN:N=i*s)(hi:i+2≤1000000000)
  (h:cfgS.A.andB (cfgS.A.andB ((i+2).ble 1000000000) ((0+i*s).ble N)) (cfgS.A.andB ((0+i*s).beq N) (Nat.beq s s))=false):p:=by
 exfalso
 have h1:(i+2).ble 1000000000=true:=Nat.ble_eq_true_of_le hi
 have h2:(0+i*s).ble N=true:=Nat.ble_eq_true_of_le (by omega)
 have h3:(0+i*s).beq N=true:=by rw [hN,Nat.zero_add];exact Nat.beq_refl _
 rw [h1,h2,h3,Nat.beq_refl] at h
 cases h
theorem flat_grow2 {α:Type}(E:El α)(o:List α)(x y:α){n:Nat}(hn:n=o.length):((flat E.fl o).drop 0).take (n*E.sz)++(E.fl x++E.fl y)=flat E.fl (o++[x,y]):=by
 subst hn
 rw [List.drop_zero,← flat_len E o,List.take_length,flat_append]
 simp [flat]
theorem rgt_of {l:List Pt}{m:List Ed}{n:Int}(h:lstB l m n=true){i:Nat}(hi:i<l.length):0≤(at2 l i).1∧(at2 l i).1≤10000∧0≤(at2 l i).2∧(at2 l i).2≤10000:=by
 simp only [lstB,Bool.and_eq_true] at h
 have h1:=allN_at h.2.1 hi
 simp only [ptB,rightS,Bool.and_eq_true,decide_eq_true_eq] at h1
 omega
theorem det153:DetC C153:=CX_det (XLOK.cons (xf160 1000) .nil).look
end Go.Aw
end

noncomputable section
namespace Go.Aw
set_option maxRecDepth 100000
def atL (ls:List (List Int))(i:Nat):List Int:=ls.getD i []
theorem atL_set (ls:List (List Int)){s:Nat}(hs:s<ls.length)(x:List Int)(i:Nat):atL (ls.set s x) i=if i=s then x else atL ls i:=by
 unfold atL
 rw [List.getD_eq_getElem?_getD,List.getD_eq_getElem?_getD,List.getElem?_set]
 by_cases h:s=i
 ·subst h;simp [hs]
 ·rw [if_neg h,if_neg (fun e=>h e.symm)]
def tN (s i:Nat):Nat:=if i=s then 7 else i+1000
def tV (q:Nat)(l:List Int):Value:=if l.length=0 then nilS else .slice (some ⟨q,0,none⟩) l.length l.length
def tC (s:Nat)(ls:List (List Int)):List Value:=(List.range ls.length).map fun i=>tV (tN s i) (atL ls i)
theorem tC_len (s:Nat)(ls:List (List Int)):(tC s ls).length=ls.length:=by simp [tC]
theorem tC_at {s:Nat}{ls:List (List Int)}{i:Nat}(hi:i<ls.length):(tC s ls)[i]? = some (tV (tN s i) (atL ls i)):=by
 unfold tC
 rw [List.getElem?_map,List.getElem?_range hi]
 rfl
theorem tC_nth {s:Nat}{ls:List (List Int)}{i o:Nat}(hi:i<ls.length)(ho:o=i*1):nth (tC s ls) o=some (tV (tN s i) (atL ls i)):=by
 rw [nth_eq,ho,Nat.mul_one];exact tC_at hi
theorem putN_set {cs:List Value}{i o:Nat}{v:Value}(ho:o=i)(hi:i<cs.length):putN cs o [v]=cs.set i v:=by
 subst ho
 apply List.ext_getElem?
 intro j
 rw [putN_get (by simp;omega),List.getElem?_set]
 by_cases e:o=j
 ·subst e
  rw [if_pos ⟨Nat.le_refl _,by simp⟩,if_pos rfl,if_pos hi,Nat.sub_self]
  rfl
 ·rw [if_neg (by simp;omega),if_neg e]
def ob (L:List Int):AObj:=.cells true false 1 (flat elI.fl L)
def tH (s:Nat)(ls:List (List Int)):Nat→Heap
 |0=>[]
 |n+1=>if n=s∨(atL ls n).length=0 then tH s ls n else (n+1000,ob (atL ls n))::tH s ls n
theorem tH_mem {s:Nat}{ls:List (List Int)}:∀ {n:Nat} {p:Nat × AObj},p∈tH s ls n→∃ i,i<n∧i≠s∧(atL ls i).length≠0∧p=(i+1000,ob (atL ls i))
 |0,p,h=>by cases h
 |n+1,p,h=>by
  unfold tH at h
  split at h
  ·obtain⟨i,h1,h2⟩:=tH_mem h
   exact⟨i,by omega,h2⟩
  ·rename_i hc
   rcases List.mem_cons.1 h with rfl|h
   ·exact⟨n,Nat.lt_succ_self n,fun e=>hc (.inl e),fun e=>hc (.inr e),rfl⟩
   ·obtain⟨i,h1,h2⟩:=tH_mem h
    exact⟨i,by omega,h2⟩
theorem look_ne {α:Type}{k n:Nat}{v:α}{r:List (Nat × α)}(h:k≠n):look ((k,v)::r) n=look r n:=by
 rw [look_cons]
 split
 ·rename_i hb;exact absurd (beq_true hb) h
 ·rfl
theorem tH_look {s:Nat}{ls:List (List Int)}{i:Nat}(h1:i≠s)(h2:(atL ls i).length≠0):∀ {n:Nat},i<n→look (tH s ls n) (i+1000)=some (ob (atL ls i))
 |0,h=>by omega
 |n+1,h=>by
  unfold tH
  by_cases e:i=n
  ·subst e
   rw [if_neg (by rintro (e|e);exact h1 e;exact h2 e),look_cons,Nat.beq_refl]
  ·split
   ·exact tH_look h1 h2 (by omega)
   ·rw [look_ne (by omega)]
    exact tH_look h1 h2 (by omega)
theorem tH_none {s:Nat}{ls:List (List Int)}{k n:Nat}(h:k<1000∨1000+n≤k):look (tH s ls n) k=none:=by
 cases hl:look (tH s ls n) k with
 |none=>rfl
 |some o =>
  obtain⟨i,h1,_,_,h2⟩:=tH_mem (look_mem hl)
  injection h2 with h2 _
  omega
theorem tH_nil {s:Nat}{ls:List (List Int)}:∀ {n:Nat},(∀ i,i<n→(atL ls i).length=0)→tH s ls n=[]
 |0,_=>rfl
 |n+1,h=>by
  unfold tH
  rw [if_pos (.inr (h n (Nat.lt_succ_self n)))]
  exact tH_nil fun i hi=>h i (by omega)
def op7 (L:List Int):Heap:=if L.length=0 then [] else [(7,ob L)]
def h153c (l:List Pt)(m:List Ed)(c1 c2:Nat)(n:Int)(k:Nat)(D:List Dt)(s:Nat)(ls:List (List Int)):Heap :=
 (6,.cells true false 5 (flat elD.fl D))::(5,.cells true false 1 (tC s ls))::(3,.cells true false 1 [.pointer (some ⟨4,0,none⟩)])::(4,.cells true false 1 (wbC l.length m.length c1 c2 n (.slice (some ⟨6,0,none⟩) k k) (.slice (some ⟨5,0,none⟩) l.length l.length) nilS)) ::
 (2,bxM l.length m.length c1 c2 n)::(0,.cells false true elP.sz (flat elP.fl l))::(1,.cells false true elE.sz (flat elE.fl m))::(op7 (atL ls s)++tH s ls ls.length)
def e153c (k:Nat)(j:Int):List (Nat × Value):=[(3,.pointer (some ⟨3,0,none⟩)),(89,.slice (some ⟨6,0,none⟩) k k),(90,iv k),(91,iv j)]
theorem ren1_sl {ρ:Nat→Nat}{q a b:Nat}:ren1 ρ (.slice (some ⟨q,0,none⟩) a b)=.slice (some ⟨ρ q,0,none⟩) a b:=rfl
theorem tV_ren {ρ:Nat→Nat}{q:Nat}{L:List Int}:ren1 ρ (tV q L)=tV (ρ q) L:=by
 unfold tV
 split
 ·rfl
 ·rfl
theorem tV_nm {q n:Nat}{L:List Int}(h:q<n):nmS n (tV q L):=by
 unfold tV
 split
 ·exact scS_g rfl
 ·exact⟨h,fun h=>by cases h⟩
theorem tC_nm {s n:Nat}{ls:List (List Int)}(h7:7<n)(hn:ls.length+1000≤n):∀ v∈tC s ls,nmS n v:=by
 intro v hv
 unfold tC at hv
 obtain⟨i,hi,rfl⟩:=List.mem_map.1 hv
 have:=List.mem_range.1 hi
 refine tV_nm ?_
 unfold tN
 split <;> omega
def rh2 (s s':Nat):Nat→Nat:=rn [(7,if s'=s then 2002 else s'+1000),(s+1000,2002)]
theorem rh2_7 (s s':Nat):rh2 s s' 7=if s'=s then 2002 else s'+1000:=rfl
theorem rh2_low {s s' k:Nat}(h:k<7):rh2 s s' k=k:=by
 unfold rh2 rn
 rw [look_ne (by omega),look_ne (by omega)]
 rfl
theorem rh2_t {s s' i:Nat}:rh2 s s' (i+1000)=if i=s then 2002 else i+1000:=by
 unfold rh2 rn
 rw [look_ne (by omega)]
 by_cases e:i=s
 ·rw [if_pos e,e,look_cons,Nat.beq_refl]
 ·rw [if_neg e,look_ne (by omega)]
  rfl
theorem rh2_n (s s' i:Nat)(hi:i=s'→s'≠s→i≠s):rh2 s s' (tN s' i)=if i=s then 2002 else i+1000:=by
 unfold tN
 by_cases e:i=s'
 ·rw [if_pos e,rh2_7]
  by_cases e2:s'=s
  ·rw [if_pos e2,if_pos (e.trans e2)]
  ·rw [if_neg e2,if_neg (hi e e2),e]
 ·rw [if_neg e,rh2_t]
def Fx (v:Value):Prop:=(∃ q a b,q<7∧v=.slice (some ⟨q,0,none⟩) a b)∨(∃ q,q<7∧v=.pointer (some ⟨q,0,none⟩))∨gS v=true
theorem Fx.ren {ρ:Nat→Nat}(hρ:∀ k,k<7→ρ k=k){v:Value}(h:Fx v):ren1 ρ v=v:=by
 rcases h with ⟨q,a,b,hq,rfl⟩|⟨q,hq,rfl⟩|h
 ·rw [ren1_sl,hρ q hq]
 ·show Value.pointer (some ⟨ρ q,0,none⟩)=_
  rw [hρ q hq]
 ·exact trS_g h
theorem Fx.nm {v:Value}{n:Nat}(hn:7≤n)(h:Fx v):nmS n v:=by
 rcases h with ⟨q,a,b,hq,rfl⟩|⟨q,hq,rfl⟩|h
 ·exact⟨Nat.lt_of_lt_of_le hq hn,fun h=>by cases h⟩
 ·exact⟨Nat.lt_of_lt_of_le hq hn,rfl⟩
 ·exact scS_g h
theorem objFx {ρ:Nat→Nat}(hρ:∀ k,k<7→ρ k=k){n:Nat}(hn:7≤n){wr g:Bool}{sz:Nat}{cs:List Value}(h:∀ v∈cs,Fx v):ObjRen ρ n (.cells wr g sz cs) (.cells wr g sz cs):=by
 refine⟨rfl,rfl,rfl,?_,fun v hv=>(h v hv).nm hn⟩
 conv=>lhs;rw [← List.map_id cs]
 exact List.map_congr_left fun v hv=>((h v hv).ren hρ).symm
theorem fx_flat {α:Type}(E:El α)(l:List α):∀ v∈flat E.fl l,Fx v:=fun v hv=>.inr (.inr (allG_mem (flat_g E l) hv))
theorem fx_s {q a b:Nat}(h:q<7):Fx (.slice (some ⟨q,0,none⟩) a b):=.inl ⟨q,a,b,h,rfl⟩
theorem fx_p {q:Nat}(h:q<7):Fx (.pointer (some ⟨q,0,none⟩)):=.inr (.inl ⟨q,h,rfl⟩)
theorem fx_g {v:Value}(h:gS v=true):Fx v:=.inr (.inr h)
def b153c (l:List Pt)(m:List Ed)(c1 c2:Nat)(n:Int)(k:Nat)(D:List Dt):Heap :=
 [(6,.cells true false 5 (flat elD.fl D)),(3,.cells true false 1 [.pointer (some ⟨4,0,none⟩)]),(4,.cells true false 1 (wbC l.length m.length c1 c2 n (.slice (some ⟨6,0,none⟩) k k) (.slice (some ⟨5,0,none⟩) l.length l.length) nilS)),
 (2,bxM l.length m.length c1 c2 n),(0,.cells false true elP.sz (flat elP.fl l)),(1,.cells false true elE.sz (flat elE.fl m))]
theorem b153c_fx {ρ:Nat→Nat}(hρ:∀ k,k<7→ρ k=k){N:Nat}(hN:7≤N){l:List Pt}{m:List Ed}{c1 c2:Nat}{n:Int}{k:Nat}{D:List Dt}:∀ p∈b153c l m c1 c2 n k D,p.1<7∧p.1≠5∧ObjRen ρ N p.2 p.2:=by
 unfold b153c
 refine List.forall_mem_cons.2 ⟨⟨Nat.le_of_ble_eq_true rfl,Nat.ne_of_beq_eq_false rfl,objFx hρ hN (fx_flat _ _)⟩,List.forall_mem_cons.2 ⟨⟨Nat.le_of_ble_eq_true rfl,Nat.ne_of_beq_eq_false rfl,objFx hρ hN ?_⟩,List.forall_mem_cons.2 ⟨⟨Nat.le_of_ble_eq_true rfl,Nat.ne_of_beq_eq_false rfl,objFx hρ hN ?_⟩,List.forall_mem_cons.2 ⟨⟨Nat.le_of_ble_eq_true rfl,Nat.ne_of_beq_eq_false rfl,objFx hρ hN ?_⟩,List.forall_mem_cons.2 ⟨⟨Nat.le_of_ble_eq_true rfl,Nat.ne_of_beq_eq_false rfl,objFx hρ hN (fx_flat _ _)⟩,List.forall_mem_cons.2 ⟨⟨Nat.le_of_ble_eq_true rfl,Nat.ne_of_beq_eq_false rfl,objFx hρ hN (fx_flat _ _)⟩,fun _ h=>(by cases h)⟩⟩⟩⟩⟩⟩
 ·exact List.forall_mem_cons.2 ⟨fx_p (by decide),fun _ h=>(by cases h)⟩
 ·exact List.forall_mem_cons.2 ⟨fx_s (by decide),List.forall_mem_cons.2 ⟨fx_s (by decide),List.forall_mem_cons.2 ⟨fx_g rfl,List.forall_mem_cons.2 ⟨fx_s (by decide),List.forall_mem_cons.2 ⟨fx_s (by decide),List.forall_mem_cons.2 ⟨fx_g rfl,fun _ h=>(by cases h)⟩⟩⟩⟩⟩⟩
 ·exact List.forall_mem_cons.2 ⟨fx_s (by decide),List.forall_mem_cons.2 ⟨fx_s (by decide),List.forall_mem_cons.2 ⟨fx_g rfl,fun _ h=>(by cases h)⟩⟩⟩
theorem h153c_mem {l:List Pt}{m:List Ed}{c1 c2:Nat}{n:Int}{k:Nat}{D:List Dt}{s:Nat}{ls:List (List Int)}{p:Nat × AObj}(h:p∈h153c l m c1 c2 n k D s ls) :
  p∈b153c l m c1 c2 n k D∨p=(5,.cells true false 1 (tC s ls))∨((atL ls s).length≠0∧p=(7,ob (atL ls s)))∨∃ i,i<ls.length∧i≠s∧(atL ls i).length≠0∧p=(i+1000,ob (atL ls i)):=by
 unfold h153c at h
 unfold b153c
 simp only [List.mem_cons,List.mem_append,List.not_mem_nil,or_false] at h ⊢
 rcases h with h|h|h|h|h|h|h|h|h
 ·exact .inl (.inl h)
 ·exact .inr (.inl h)
 ·exact .inl (.inr (.inl h))
 ·exact .inl (.inr (.inr (.inl h)))
 ·exact .inl (.inr (.inr (.inr (.inl h))))
 ·exact .inl (.inr (.inr (.inr (.inr (.inl h)))))
 ·exact .inl (.inr (.inr (.inr (.inr (.inr h)))))
 ·unfold op7 at h
  split at h
  ·cases h
  ·rename_i hc
   exact .inr (.inr (.inl ⟨hc,by simpa using h⟩))
 ·obtain⟨i,h1,h2,h3,h4⟩:=tH_mem h
  exact .inr (.inr (.inr ⟨i,h1,h2,h3,h4⟩))
theorem ob_ren {ρ:Nat→Nat}{n:Nat}{L:List Int}:ObjRen ρ n (ob L) (ob L):=ObjRen_g (flat_g _ _)
theorem tC_ren {ρ:Nat→Nat}{s':Nat}{ls':List (List Int)}{cs:List Value}(hl:cs.length=ls'.length)(h:∀ i,i<ls'.length→cs[i]? = some (tV (ρ (tN s' i)) (atL ls' i))):cs=(tC s' ls').map (ren1 ρ):=by
 apply List.ext_getElem?
 intro i
 by_cases hi:i<ls'.length
 ·rw [h i hi,List.getElem?_map,tC_at hi]
  simp only [Option.map_some,tV_ren]
 ·rw [List.getElem?_eq_none (by omega),List.getElem?_eq_none (by rw [List.length_map,tC_len];omega)]
section
variable {l:List Pt}{m:List Ed}{c1 c2:Nat}{n:Int}{k:Nat}{D:List Dt}{s s' q:Nat}{ls:List (List Int)}{x j:Int}{e:List (Nat × Value)}{h:Heap}{nx:Nat}{I:KS}
theorem e153c_ok {ρ:Nat→Nat}(hρ:∀ k,k<7→ρ k=k)(he:∀ p∈e153c k j,look e p.1=some p.2):∀ t v,look (e153c k j) t=some v→look e t=some (ren ρ v)∧nmT 2000 v:=by
 intro t v hv
 have hm:=look_mem hv
 have h1:=he _ hm
 unfold e153c at hm
 simp only [List.mem_cons,List.not_mem_nil,or_false] at hm
 rw [h1]
 rcases hm with hm|hm|hm|hm <;> (injection hm with _ hm;subst hm)
 ·exact⟨by show some (Value.pointer (some ⟨3,0,none⟩))=some (Value.pointer (some ⟨ρ 3,0,none⟩));rw [hρ 3 (by decide)],by decide,rfl⟩
 ·exact⟨by show some (Value.slice (some ⟨6,0,none⟩) k k)=some (Value.slice (some ⟨ρ 6,0,none⟩) k k);rw [hρ 6 (by decide)],by decide,fun h=>by cases h⟩
 ·exact⟨by rw [ren,tr_g rfl],scT_g rfl⟩
 ·exact⟨by rw [ren,tr_g rfl],scT_g rfl⟩
theorem into2 (hs:s<ls.length)(hn:ls.length≤1000)(hI:I (e153c k j) (h153c l m c1 c2 n k D s' (ls.set s (atL ls s++[x]))) 2000)(he:∀ p∈e153c k j,look e p.1=some p.2)
  (hb:∀ p∈b153c l m c1 c2 n k D,look h p.1=some p.2) (hq:q=(atL ls s).length+1) (h5:look h 5=some (.cells true false 1 ((tC s ls).set s (.slice (some ⟨2002,0,none⟩) q q))))
  (h2:look h 2002=some (ob (atL ls s++[x]))) (ht:∀ i,i<ls.length→i≠s→(atL ls i).length≠0→look h (i+1000)=some (ob (atL ls i))):Into 2 I e h nx:=by
 have hat:∀ i,atL (ls.set s (atL ls s++[x])) i=if i=s then atL ls s++[x] else atL ls i:=atL_set ls hs _
 have hl:(ls.set s (atL ls s++[x])).length=ls.length:=List.length_set
 have hρ:∀ k,k<7→rh2 s s' k=k:=fun k hk=>rh2_low hk
 generalize ls.set s (atL ls s++[x])=ls' at hI hat hl
 refine⟨e153c k j,h153c l m c1 c2 n k D s' ls',2000,rh2 s s',hI,e153c_ok hρ he,?_,?_,fun k hk=>rh2_low (by omega),by omega⟩
 ·intro k' o hk
  rcases h153c_mem (look_mem hk) with hm|hm|⟨h7,hm⟩|⟨i,h1,h3,h4,hm⟩
  ·obtain⟨a1,_,a2⟩:=b153c_fx hρ (N:=2000) (by omega) _ hm
   simp only at a1 a2
   exact⟨by omega,o,by rw [hρ k' a1];exact hb _ hm,a2⟩
  ·injection hm with e1 e2
   subst e1 e2
   refine⟨by omega,.cells true false 1 ((tC s ls).set s (.slice (some ⟨2002,0,none⟩) q q)),by rw [hρ 5 (by omega)];exact h5,rfl,rfl,rfl,tC_ren (by rw [List.length_set,tC_len,hl]) fun i hi=>?_,tC_nm (by omega) (by omega)⟩
   rw [hl] at hi
   rw [rh2_n s s' i (fun e1 e2 e3=>e2 (e1.symm.trans e3)),List.getElem?_set,hat]
   by_cases e1:s=i
   ·subst e1
    rw [if_pos rfl,if_pos rfl,if_pos rfl,if_pos (by rw [tC_len];exact hi)]
    unfold tV
    rw [if_neg (by simp),List.length_append,hq]
    rfl
   ·rw [if_neg e1,if_neg (fun e=>e1 e.symm),if_neg (fun e=>e1 e.symm),tC_at hi]
    unfold tN
    rw [if_neg (fun e=>e1 e.symm)]
  ·injection hm with e1 e2
   subst e1 e2
   rw [rh2_7,hat]
   rw [hat] at h7
   by_cases e1:s'=s
   ·rw [if_pos e1,if_pos e1]
    exact⟨by omega,_,h2,ob_ren⟩
   ·rw [if_neg e1,if_neg e1]
    rw [if_neg e1] at h7
    have hs':s'<ls.length:=by
     refine Decidable.byContradiction fun hc=>h7 ?_
     unfold atL
     rw [List.getD_eq_getElem?_getD,List.getElem?_eq_none (by omega)]
     rfl
    exact⟨by omega,_,ht s' hs' e1 h7,ob_ren⟩
  ·injection hm with e1 e2
   subst e1 e2
   rw [hl] at h1
   rw [rh2_t,hat]
   rw [hat] at h4
   by_cases e1:i=s
   ·rw [if_pos e1,if_pos e1]
    exact⟨by omega,_,h2,ob_ren⟩
   ·rw [if_neg e1,if_neg e1]
    rw [if_neg e1] at h4
    exact⟨by omega,_,ht i h1 e1 h4,ob_ren⟩
 ·have hc:∀ {k' o},look (h153c l m c1 c2 n k D s' ls') k'=some o→k'<7∨(k'=7∧(s'≠s→s'<ls.length))∨∃ i,i<ls.length∧i≠s'∧k'=i+1000:=by
   intro k' o hk
   rcases h153c_mem (look_mem hk) with hm|hm|⟨h7,hm⟩|⟨i,h1,h3,h4,hm⟩
   ·exact .inl (b153c_fx hρ (N:=2000) (by omega) _ hm).1
   ·injection hm with e1 e2
    exact .inl (by omega)
   ·injection hm with e1 e2
    refine .inr (.inl ⟨e1,fun e2=>Decidable.byContradiction fun hc=>h7 ?_⟩)
    rw [hat,if_neg e2]
    unfold atL
    rw [List.getD_eq_getElem?_getD,List.getElem?_eq_none (by omega)]
    rfl
   ·injection hm with e1 e2
    exact .inr (.inr ⟨i,by omega,h3,e1⟩)
  intro k1 k2 o1 o2 hk1 hk2 heq
  rcases hc hk1 with a1|⟨a1,a2⟩|⟨i1,a1,a2,a3⟩ <;> rcases hc hk2 with b1|⟨b1,b2⟩|⟨i2,b1,b2,b3⟩
  ·rw [hρ _ a1,hρ _ b1] at heq;exact heq
  ·rw [hρ _ a1,b1,rh2_7] at heq
   split at heq <;> omega
  ·rw [hρ _ a1,b3,rh2_t] at heq
   split at heq <;> omega
  ·rw [hρ _ b1,a1,rh2_7] at heq
   split at heq <;> omega
  ·omega
  ·rw [a1,b3,rh2_7,rh2_t] at heq
   split at heq <;> split at heq <;> omega
  ·rw [hρ _ b1,a3,rh2_t] at heq
   split at heq <;> omega
  ·rw [b1,a3,rh2_7,rh2_t] at heq
   split at heq <;> split at heq <;> omega
  ·rw [a3,b3,rh2_t,rh2_t] at heq
   split at heq <;> split at heq <;> omega
end
theorem atD_app1 {A B:List Dt}{i:Nat}(h:i<A.length):atD (A++B) i=atD A i:=by
 unfold atD
 rw [List.getD_eq_getElem?_getD,List.getD_eq_getElem?_getD,List.getElem?_append_left h]
theorem atD_app2 {A B:List Dt}{i j:Nat}(h:i=A.length+j):atD (A++B) i=atD B j:=by
 unfold atD
 rw [List.getD_eq_getElem?_getD,List.getD_eq_getElem?_getD,List.getElem?_append_right (by omega),show i - A.length=j by omega]
theorem dts_at (l:List Pt)(m:List Ed):∀ {N i:Nat},i<N→atD (dts l m N) (2*i)=dA l m i∧atD (dts l m N) (2*i+1)=dB l m i
 |0,i,h=>by omega
 |N+1,i,h=>by
  have hl:=dts_len l m N
  unfold dts
  by_cases e:i=N
  ·subst e
   rw [atD_app2 (j:=0) (by omega),atD_app2 (j:=1) (by omega)]
   exact⟨rfl,rfl⟩
  ·rw [atD_app1 (by omega),atD_app1 (by omega)]
   exact dts_at l m (by omega)
theorem dts_one {l:List Pt}{m:List Ed}{N i:Nat}(h:i<2*N):(i % 2=0∧atD (dts l m N) i=dA l m (i / 2))∨(i % 2=1∧atD (dts l m N) i=dB l m (i / 2)):=by
 have:=dts_at l m (N:=N) (i:=i / 2) (by omega)
 by_cases e:i % 2=0
 ·left
  rw [show 2*(i / 2)=i by omega] at this
  exact⟨e,this.1⟩
 ·right
  rw [show 2*(i / 2)+1=i by omega] at this
  exact⟨by omega,this.2⟩
theorem dts_fr {l:List Pt}{m:List Ed}(hM:okM l m=true){i:Nat}(h:i<2*m.length):0≤(atD (dts l m m.length) i).fr∧(atD (dts l m m.length) i).fr<l.length∧0≤(atD (dts l m m.length) i).tt∧(atD (dts l m m.length) i).tt<l.length∧(atD (dts l m m.length) i).no=i:=by
 have he:=okM_at hM (i:=i / 2) (by omega)
 rcases dts_one (l:=l) (m:=m) h with ⟨e,h1⟩|⟨e,h1⟩
 ·rw [h1];simp only [dA];omega
 ·rw [h1];simp only [dB];omega
theorem dts_allW {l:List Pt}{m:List Ed}{n:Int}(hok:lstB l m n=true)(hM:okM l m=true):allW (dts l m m.length)=true:=by
 refine List.all_eq_true.2 fun d hd=>?_
 obtain⟨i,hi,rfl⟩:=List.getElem_of_mem hd
 rw [← atD_eq hi]
 rw [dts_len] at hi
 have he:=okM_at hM (i:=i / 2) (by omega)
 have pa:=rgt_of hok (i:=(atE m (i / 2)).a.toNat) (by omega)
 have pb:=rgt_of hok (i:=(atE m (i / 2)).b.toNat) (by omega)
 rcases dts_one (l:=l) (m:=m) hi with ⟨e,h1⟩|⟨e,h1⟩
 ·rw [h1]
  unfold wide
  simp only [Bool.and_eq_true,decide_eq_true_eq]
  simp only [dirD,dA,ptI]
  omega
 ·rw [h1]
  unfold wide
  simp only [Bool.and_eq_true,decide_eq_true_eq]
  simp only [dirD,dB,ptI]
  omega
def outN (nP:Nat)(D:List Dt):Nat→List (List Int)
 |0=>List.replicate nP []
 |j+1=>(outN nP D j).set (atD D j).fr.toNat (atL (outN nP D j) (atD D j).fr.toNat++[(atD D j).no])
theorem outN_len (nP:Nat)(D:List Dt):∀ j,(outN nP D j).length=nP
 |0=>List.length_replicate
 |j+1=>by unfold outN;rw [List.length_set];exact outN_len nP D j
theorem outN_le (nP:Nat)(D:List Dt):∀ (j s:Nat),(∀ i,i<j→(atD D i).fr.toNat<nP)→(atL (outN nP D j) s).length≤j
 |0,s,_=>by
  show (atL (List.replicate nP []) s).length≤0
  unfold atL
  rw [List.getD_eq_getElem?_getD,List.getElem?_replicate]
  split <;> exact Nat.le_refl _
 |j+1,s,h=>by
  unfold outN
  rw [atL_set _ (by rw [outN_len];exact h j (Nat.lt_succ_self j))]
  split
  ·rename_i e
   have:=outN_le nP D j (atD D j).fr.toNat fun i hi=>h i (by omega)
   rw [List.length_append,List.length_singleton]
   omega
  ·have:=outN_le nP D j s fun i hi=>h i (by omega)
   omega
theorem bm1 {k:Nat}{X Y:Prop}(h:Y):(match (generalizing:=false) Nat.ble (k+1) k with|true=>X|false=>Y):=by
 cases hb:Nat.ble (k+1) k with
 |false=>exact h
 |true=>have:=Nat.le_of_ble_eq_true hb;omega
def sD (nP:Nat)(D:List Dt)(i:Nat):Nat:=if i<D.length then (atD D i).fr.toNat else nP
theorem atL_rep {n i:Nat}:atL (List.replicate n []) i=[]:=by
 unfold atL
 rw [List.getD_eq_getElem?_getD,List.getElem?_replicate]
 split <;> rfl
theorem tC_rep {n s:Nat}:tC s (List.replicate n [])=List.replicate n nilS:=by
 apply List.ext_getElem?
 intro i
 by_cases hi:i<n
 ·rw [tC_at (by rw [List.length_replicate];exact hi),List.getElem?_replicate,if_pos hi,atL_rep]
  rfl
 ·rw [List.getElem?_eq_none (by rw [tC_len,List.length_replicate];omega),List.getElem?_eq_none (by rw [List.length_replicate];omega)]
theorem rep_one (v:Value):∀ n,rep n [v]=List.replicate n v
 |0=>rfl
 |n+1=>by rw [List.replicate_succ,← rep_one v n];rfl
theorem h153c_0 {l:List Pt}{m:List Ed}{c1 c2:Nat}{n:Int}{k:Nat}{D:List Dt}{s:Nat}:h153c l m c1 c2 n k D s (List.replicate l.length [])=h153b l m c1 c2 n k D:=by
 unfold h153c h153b
 rw [tC_rep,atL_rep,tH_nil (fun i _=>by rw [atL_rep];rfl),rep_one]
 rfl
def dAt (D:List Dt)(s j:Nat):List Int:=((List.range j).filter fun i=>decide ((atD D i).fr.toNat=s)).map fun (i:Nat)=>(i:Int)
theorem outN_at {nP:Nat}{D:List Dt}:∀ (j:Nat),(∀ i,i<j→(atD D i).fr.toNat<nP∧(atD D i).no=i)→∀ s,atL (outN nP D j) s=dAt D s j
 |0,_,s=>atL_rep
 |j+1,h,s=>by
  have ih:=outN_at j fun i hi=>h i (by omega)
  have hj:=h j (Nat.lt_succ_self j)
  unfold outN
  rw [atL_set _ (by rw [outN_len];exact hj.1),ih,ih]
  unfold dAt
  rw [List.range_succ,List.filter_append,List.map_append]
  by_cases e:s=(atD D j).fr.toNat
  ·rw [if_pos e,e,hj.2]
   congr 1
   rw [List.filter_cons_of_pos (by simp)]
   rfl
  ·rw [if_neg e,List.filter_cons_of_neg (by simpa using fun h=>e h.symm)]
   simp
theorem dAt_mem {D:List Dt}{s j:Nat}{x:Int}(h:x∈dAt D s j):∃ i,i<j∧x=i∧(atD D i).fr.toNat=s:=by
 unfold dAt at h
 obtain⟨i,hi,rfl⟩:=List.mem_map.1 h
 obtain⟨h1,h2⟩:=List.mem_filter.1 hi
 exact⟨i,List.mem_range.1 h1,rfl,by simpa using h2⟩
theorem dAt_of {D:List Dt}{s j i:Nat}(h:i<j)(hs:(atD D i).fr.toNat=s):(i:Int)∈dAt D s j :=
 List.mem_map.2 ⟨i,List.mem_filter.2 ⟨List.mem_range.2 h,by simpa using hs⟩,rfl⟩
theorem atB_set (k:List Bool)(x:Nat)(i:Nat)(h:atB (k.set x true) i=true):i=x∨atB k i=true:=by
 unfold atB at h ⊢
 rw [List.getD_eq_getElem?_getD,List.getElem?_set] at h
 by_cases e:x=i
 ·exact .inl e.symm
 ·rw [if_neg e,← List.getD_eq_getElem?_getD] at h
  exact .inr h
theorem useN_true (m:List Ed)(s:List Bool):∀ (i p:Nat),atB (useN m s i) p=true→atB s p=true∨∃ e,e<i∧(p=(atE m e).a.toNat∨p=(atE m e).b.toNat)
 |0,p,h=>.inl h
 |i+1,p,h=>by
  unfold useN at h
  rcases atB_set _ _ _ h with e|h
  ·exact .inr ⟨i,Nat.lt_succ_self i,.inr e⟩
  ·rcases atB_set _ _ _ h with e|h
   ·exact .inr ⟨i,Nat.lt_succ_self i,.inl e⟩
   ·rcases useN_true m s i p h with h|⟨e,h1,h2⟩
    ·exact .inl h
    ·exact .inr ⟨e,by omega,h2⟩
theorem lst_out {l:List Pt}{m:List Ed}{n:Int}(hok:lstB l m n=true){s:Nat}(hs:s<l.length):(dAt (dts l m m.length) s (2*m.length)).length≠0:=by
 simp only [lstB,Bool.and_eq_true] at hok
 have h1:=List.all_eq_true.1 hok.2.2.2
 have h2:atB (useN m (List.replicate l.length false) m.length) s=true:=by
  rw [atB_eq (by rw [useN_len,List.length_replicate];exact hs)]
  exact h1 _ (List.getElem_mem _)
 rcases useN_true m _ m.length s h2 with h|⟨e,h3,h4⟩
 ·unfold atB at h
  rw [List.getD_eq_getElem?_getD,List.getElem?_replicate] at h
  split at h <;> cases h
 ·have hd:=dts_at l m h3
  rcases h4 with h4|h4
  ·have:=dAt_of (D:=dts l m m.length) (s:=s) (j:=2*m.length) (i:=2*e) (by omega) (by rw [hd.1,h4];rfl)
   intro h0
   rw [List.eq_nil_of_length_eq_zero h0] at this
   cases this
  ·have:=dAt_of (D:=dts l m m.length) (s:=s) (j:=2*m.length) (i:=2*e+1) (by omega) (by rw [hd.2,h4];rfl)
   intro h0
   rw [List.eq_nil_of_length_eq_zero h0] at this
   cases this
theorem rotG_len (m:Nat):∀ (k:Nat) (L:List Int) (i j:Nat),(rotG m k L i j).length=L.length
 |0,L,i,j=>rfl
 |k+1,L,i,j=>by
  unfold rotG
  split
  ·exact swrN_len _ _ _ _
  ·split
   ·rw [rotG_len m k,swrN_len]
   ·rw [rotG_len m k,swrN_len]
theorem swU_len (L:List Int)(a:Nat):∀ t,(swU L a t).length=L.length
 |0=>rfl
 |t+1=>by unfold swU;rw [swpL_len];exact swU_len L a t
theorem swD_len (L:List Int)(a:Nat):∀ t,(swD L a t).length=L.length
 |0=>rfl
 |t+1=>by unfold swD;rw [swpL_len];exact swD_len L a t
theorem ite_len {c:Prop}[Decidable c]{a b:List Int}{n:Nat}(ha:a.length=n)(hb:b.length=n):(if c then a else b).length=n:=by
 split
 ·exact ha
 ·exact hb
theorem symM_len (D:List Dt):∀ (k:Nat) (L:List Int) (a m b:Nat),(symM D k L a m b).length=L.length
 |0,L,_,_,_=>rfl
 |k+1,L,a,m,b=>by
  unfold symM
  refine ite_len (swU_len _ _ _) (ite_len (swD_len _ _ _) ?_)
  simp only
  have h1:(if stM D L a m b<m∧m<(a+b) / 2+m - stM D L a m b then rotG m (m - stM D L a m b+((a+b) / 2+m - stM D L a m b - m)) L (m - stM D L a m b) ((a+b) / 2+m - stM D L a m b - m) else L).length=L.length:=ite_len (rotG_len _ _ _ _ _) rfl
  have h2:(if a<stM D L a m b∧stM D L a m b<(a+b) / 2 then symM D k (if stM D L a m b<m∧m<(a+b) / 2+m - stM D L a m b then rotG m (m - stM D L a m b+((a+b) / 2+m - stM D L a m b - m)) L (m - stM D L a m b) ((a+b) / 2+m - stM D L a m b - m) else L) a (stM D L a m b) ((a+b) / 2) else (if stM D L a m b<m∧m<(a+b) / 2+m - stM D L a m b then rotG m (m - stM D L a m b+((a+b) / 2+m - stM D L a m b - m)) L (m - stM D L a m b) ((a+b) / 2+m - stM D L a m b - m) else L)).length=L.length:=ite_len ((symM_len D k _ _ _ _).trans h1) h1
  exact ite_len ((symM_len D k _ _ _ _).trans h2) h2
theorem insB_len (D:List Dt)(n:Nat):∀ (k:Nat) (L:List Int) (a:Nat),(insB D n k L a).1.length=L.length
 |0,L,a=>rfl
 |k+1,L,a=>by
  unfold insB
  split
  ·rw [insB_len D n k,insN_len]
  ·rfl
theorem mrgA_len (D:List Dt)(f n bs:Nat):∀ (k:Nat) (L:List Int) (a:Nat),(mrgA D f n bs k L a).1.length=L.length
 |0,L,a=>rfl
 |k+1,L,a=>by
  unfold mrgA
  split
  ·rw [mrgA_len D f n bs k,symM_len]
  ·rfl
theorem mrgE_len (D:List Dt)(f n bs:Nat)(r:List Int × Nat):(mrgE D f n bs r).length=r.1.length:=by
 unfold mrgE
 exact ite_len (symM_len _ _ _ _ _ _) rfl
theorem mrgB_len (D:List Dt)(f n:Nat):∀ (k:Nat) (L:List Int) (bs:Nat),(mrgB D f n k L bs).length=L.length
 |0,L,bs=>rfl
 |k+1,L,bs=>by
  unfold mrgB
  refine ite_len ?_ rfl
  rw [mrgB_len D f n k,mrgE_len,mrgA_len]
theorem stbl_len (D:List Dt)(f:Nat)(L:List Int):(stbl D f L).length=L.length:=by
 unfold stbl
 rw [mrgB_len,insN_len,insB_len]
def srN (D:List Dt)(ls:List (List Int)):Nat→List (List Int)
 |0=>ls
 |i+1=>(srN D ls i).set i (stbl D 1000 (atL ls i))
theorem srN_len (D:List Dt)(ls:List (List Int)):∀ i,(srN D ls i).length=ls.length
 |0=>rfl
 |i+1=>by unfold srN;rw [List.length_set];exact srN_len D ls i
theorem srN_at (D:List Dt)(ls:List (List Int)):∀ {i:Nat},i≤ls.length→∀ s,atL (srN D ls i) s=if s<i then stbl D 1000 (atL ls s) else atL ls s
 |0,h,s=>by rw [if_neg (by omega)];rfl
 |i+1,h,s=>by
  have ih:=srN_at D ls (i:=i) (by omega) s
  unfold srN
  rw [atL_set _ (by rw [srN_len];omega),ih]
  by_cases e:s=i
  ·rw [if_pos e,if_pos (by omega),e]
  ·rw [if_neg e]
   by_cases e2:s<i
   ·rw [if_pos e2,if_pos (by omega)]
   ·rw [if_neg e2,if_neg (by omega)]
theorem tC_congr {s:Nat}{ls ls':List (List Int)}(hl:ls'.length=ls.length)(h:∀ i,i<ls.length→(atL ls' i).length=(atL ls i).length):tC s ls'=tC s ls:=by
 unfold tC
 rw [hl]
 refine List.map_congr_left fun i hi=>?_
 unfold tV
 rw [h i (List.mem_range.1 hi)]
theorem into_web {l:List Pt}{m:List Ed}{c1 c2:Nat}{n:Int}{k:Nat}{D:List Dt}{s:Nat}{ls:List (List Int)}{e0 e:List (Nat × Value)}{h:Heap}{nx:Nat}{I:KS}(hn:ls.length≤1000)(hs:ls.length≤s)(hI:I e0 (h153c l m c1 c2 n k D s ls) 2000)
  (he:∀ p∈e0,look e p.1=some (ren id p.2)∧nmT 2000 p.2) (hb:∀ p∈b153c l m c1 c2 n k D,look h p.1=some p.2) (h5:look h 5=some (.cells true false 1 (tC s ls)))
  (ht:∀ i,i<ls.length→(atL ls i).length≠0→look h (i+1000)=some (ob (atL ls i))):Into 2 I e h nx:=by
 refine⟨e0,h153c l m c1 c2 n k D s ls,2000,id,hI,fun t v hv=>he _ (look_mem hv),fun k' o hk=>?_,fun k' k'' _ _ _ _ h=>h,fun _ _=>rfl,by omega⟩
 rcases h153c_mem (look_mem hk) with hm|hm|⟨h7,hm⟩|⟨i,h1,h3,h4,hm⟩
 ·obtain⟨a1,_,a2⟩:=b153c_fx (ρ:=id) (fun _ _=>rfl) (N:=2000) (by omega) _ hm
  simp only at a1 a2
  exact⟨by omega,o,hb _ hm,a2⟩
 ·injection hm with e1 e2
  subst e1 e2
  refine⟨by omega,.cells true false 1 (tC s ls),h5,rfl,rfl,rfl,tC_ren (tC_len _ _) fun i hi=>tC_at hi,tC_nm (by omega) (by omega)⟩
 ·exfalso
  refine h7 ?_
  unfold atL
  rw [List.getD_eq_getElem?_getD,List.getElem?_eq_none hs]
  rfl
 ·injection hm with e1 e2
  subst e1 e2
  exact⟨by omega,_,ht i h1 h4,ob_ren⟩
def webH (l:List Pt)(m:List Ed)(c1 c2:Nat)(n:Int)(k:Nat)(D:List Dt)(ls:List (List Int)):Heap :=
 (4,.cells true false 1 (wbC l.length m.length c1 c2 n (.slice (some ⟨6,0,none⟩) k k) (.slice (some ⟨5,0,none⟩) l.length l.length) nilS))::(6,.cells true false 5 (flat elD.fl D))::(5,.cells true false 1 (tC ls.length ls)) ::
 (0,.cells false true elP.sz (flat elP.fl l))::(1,.cells false true elE.sz (flat elE.fl m))::tH ls.length ls ls.length
theorem webH_out {l:List Pt}{m:List Ed}{c1 c2:Nat}{n:Int}{k:Nat}{D:List Dt}{s:Nat}{ls:List (List Int)}{h:Heap}{nx:Nat}(hn:ls.length≤1000)(hs:ls.length=s)(hh:h=h153c l m c1 c2 n k D s ls):Outc (.pointer (some ⟨4,0,none⟩)) (webH l m c1 c2 n k D ls) 2000 (.pointer (some ⟨4,0,none⟩)) h nx:=by
 subst hs hh
 have hsub:∀ p,p∈webH l m c1 c2 n k D ls→p∈h153c l m c1 c2 n k D ls.length ls:=by
  intro p hp
  unfold webH at hp
  unfold h153c
  simp only [List.mem_cons,List.mem_append] at hp ⊢
  rcases hp with hp|hp|hp|hp|hp|hp
  ·exact .inr (.inr (.inr (.inl hp)))
  ·exact .inl hp
  ·exact .inr (.inl hp)
  ·exact .inr (.inr (.inr (.inr (.inr (.inl hp)))))
  ·exact .inr (.inr (.inr (.inr (.inr (.inr (.inl hp))))))
  ·exact .inr (.inr (.inr (.inr (.inr (.inr (.inr (.inr hp)))))))
 have h5:look (h153c l m c1 c2 n k D ls.length ls) 5=some (.cells true false 1 (tC ls.length ls)):=rfl
 have hb:∀ p∈b153c l m c1 c2 n k D,look (h153c l m c1 c2 n k D ls.length ls) p.1=some p.2:=by
  unfold b153c
  exact List.forall_mem_cons.2 ⟨rfl,List.forall_mem_cons.2 ⟨rfl,List.forall_mem_cons.2 ⟨rfl,List.forall_mem_cons.2 ⟨rfl,List.forall_mem_cons.2 ⟨rfl,List.forall_mem_cons.2 ⟨rfl,fun _ h=>(by cases h)⟩⟩⟩⟩⟩⟩
 have h7:(atL ls ls.length).length=0:=by
  unfold atL
  rw [List.getD_eq_getElem?_getD,List.getElem?_eq_none (Nat.le_refl _)]
  rfl
 refine⟨id,fun t v hv=>?_,fun k' o hk=>?_,fun k' k'' _ _ _ _ h=>h,fun _ _=>rfl,by omega⟩
 ·have hm:=look_mem hv
  simp only [List.mem_cons,List.not_mem_nil,or_false] at hm
  injection hm with e1 e2
  subst e1 e2
  exact⟨rfl,Nat.le_of_ble_eq_true rfl,rfl⟩
 ·rcases h153c_mem (hsub _ (look_mem hk)) with hm|hm|⟨h8,hm⟩|⟨i,h1,h3,h4,hm⟩
  ·obtain⟨a1,_,a2⟩:=b153c_fx (ρ:=id) (fun _ _=>rfl) (N:=2000) (by omega) _ hm
   simp only at a1 a2
   exact⟨by omega,o,hb _ hm,a2⟩
  ·injection hm with e1 e2
   subst e1 e2
   refine⟨by omega,.cells true false 1 (tC ls.length ls),h5,rfl,rfl,rfl,tC_ren (tC_len _ _) fun i hi=>tC_at hi,tC_nm (by omega) (by omega)⟩
  ·exact absurd h7 h8
  ·injection hm with e1 e2
   subst e1 e2
   refine⟨by omega,_,?_,ob_ren⟩
   unfold h153c
   repeat rw [look_ne (by omega)]
   rw [show op7 (atL ls ls.length)=[] from if_pos h7]
   exact tH_look h3 h4 h1
theorem op7_out {ls:List (List Int)}{s:Nat}(h:ls.length≤s):op7 (atL ls s)=[]:=by
 unfold atL
 rw [List.getD_eq_getElem?_getD,List.getElem?_eq_none h]
 rfl
def outs (l:List Pt)(m:List Ed):List (List Int):=srN (dts l m m.length) (outN l.length (dts l m m.length) (2*m.length)) l.length
theorem outs_len (l:List Pt)(m:List Ed):(outs l m).length=l.length:=by unfold outs;rw [srN_len,outN_len]
theorem tH_allC (s:Nat)(ls:List (List Int)):∀ n,AllC (tH s ls n)
 |0=>fun j o hj=>by cases hj
 |n+1=>by
  unfold tH
  split
  ·exact tH_allC s ls n
  ·exact AllC_cons (tH_allC s ls n)
theorem srtS_ok {n:Nat}{D:List Dt}{l:List Int}{c:Nat}(h1:l.length≤n)(h2:l.length≤1000000)(h3:inR D l=true)(h4:allW D=true):srtS n D l [] c=some (true,stbl D n l):=by
 unfold srtS
 simp only [h1,h2,h3,h4,decide_true,Bool.and_self]
end Go.Aw
end
