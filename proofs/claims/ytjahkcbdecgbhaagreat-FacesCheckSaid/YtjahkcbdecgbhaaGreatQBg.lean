/-
  Parts of the proof, put together. No condition.
-/
import Derived.Test.YtjahkcbdecgbhaaGreatQBf
set_option linter.unusedSimpArgs false
set_option linter.unusedVariables false
noncomputable section
namespace Go.Aw
set_option maxRecDepth 100000
set_option maxHeartbeats 2000000
def cfgN (xl:List (Nat × XF)):Cfg:={ cfgS with X:=look xl,M:=2 }
theorem cfgN_ok {xl:List (Nat × XF)}(h:XLOK xl):CfgOK Go.Proofs.Tryz.prog (cfgN xl) where
 ar:=cfgS_ok.ar
 tab:=cfgS_ok.tab
 mixed:=cfgS_ok.mixed
 funcs:=cfgS_ok.funcs
 xs:=h.look
def backI (d:Int):Int:=if d % 2=0 then d+1 else d - 1
def nxL (D:List Dt)(ls:List (List Int))(d:Int):List Int:=atL ls (atD D d.toNat).tt.toNat
def nxI (D:List Dt)(ls:List (List Int))(d:Int):Int:=atI (nxL D ls d) ((idxI (backI d) (nxL D ls d) 0 - 1+(nxL D ls d).length) % (nxL D ls d).length).toNat
def nxB (D:List Dt)(ls:List (List Int))(d:Int):Bool:=decide (0≤d)&&decide (d<D.length)&&decide (D.length≤1000)&&decide (ls.length≤1000)&&(decide (0≤(atD D d.toNat).tt)&&decide ((atD D d.toNat).tt<ls.length)) &&
 (decide (0≤idxI (backI d) (nxL D ls d) 0)&&decide (idxI (backI d) (nxL D ls d) 0<(nxL D ls d).length)&&decide ((nxL D ls d).length≤1000))
def nxS (l:List Pt)(D:List Dt)(ls:List (List Int)):List Value→Option (Bool × Value)
 |[.int .i64 d]=>some (nxB D ls d,iv (nxI D ls d))
 |_=>none
theorem getTt (m:List Dt){i o:Nat}(hi:i<m.length)(ho:o=i*5+4):nth (flat elD.fl m) o=some (iv (atD m i).tt):=by
 rw [atD_eq hi];exact nth_flat elD m hi (k:=4) rfl (by decide) (by rw [ho];rfl)
theorem getFr (m:List Dt){i o:Nat}(hi:i<m.length)(ho:o=i*5+3):nth (flat elD.fl m) o=some (iv (atD m i).fr):=by
 rw [atD_eq hi];exact nth_flat elD m hi (k:=3) rfl (by decide) (by rw [ho];rfl)
theorem xor1 (n:Nat):n ^^^ 1=if n % 2=0 then n+1 else n - 1:=by
 have h1:(n ^^^ 1) / 2=n / 2:=by rw [Nat.xor_div_two];simp
 have h2:(n ^^^ 1) % 2=(n % 2) ^^^ 1:=Nat.xor_mod_two_pow (n:=1)
 split
 ·rename_i h;rw [h] at h2;have:(0:Nat) ^^^ 1=1:=rfl;omega
 ·rename_i h;rw [show n % 2=1 by omega] at h2;have:(1:Nat) ^^^ 1=0:=rfl;omega
theorem xorI {d:Int}(h:0≤d):((d.toNat ^^^ 1:Nat):Int)=backI d:=by
 rw [xor1]
 unfold backI
 split <;> split <;> omega
def Xf78:Nat × XF:=(78,wbX nxS)
theorem xf78:XOK Go.Proofs.Tryz.prog Xf78.1 Xf78.2:=wbX_ok (vcall_ok (cfgN_ok (xl:=[Xf167]) (.cons xf167 .nil)) 5).1 fun l D ls r v hs=>by
 have:∃ d,r=[iv d]∧nxB D ls d=true∧v=iv (nxI D ls d):=by
  unfold nxS at hs
  split at hs
  ·rename_i d
   injection hs with hs;injection hs with h1 h2;exact⟨d,rfl,h1,h2.symm⟩
  ·cases hs
 obtain⟨d,rfl,hB,rfl⟩:=this
 clear hs
 unfold nxB at hB
 simp only [Bool.and_eq_true,decide_eq_true_eq] at hB
 obtain⟨⟨⟨⟨⟨h1,h2⟩,h3⟩,h4⟩,h5,h6⟩,⟨h7,h8⟩,h9⟩:=hB
 refine⟨rfl,rfl,h4,(atD D d.toNat).tt.toNat,fun nE c1 c2 n fo=>?_⟩
 have hnn:nxI D ls d=atI (nxL D ls d) ((idxI (backI d) (nxL D ls d) 0 - 1+(nxL D ls d).length) % (nxL D ls d).length).toNat:=rfl
 generalize nxI D ls d=X at hnn ⊢
 unfold nxL at h7 h8 h9 hnn
 generalize hs:(atD D d.toNat).tt.toNat=s at h7 h8 h9 hnn ⊢
 have h0:(atL ls s).length≠0:=by omega
 have ho7:op7 (atL ls s)=[(7,.cells true false 1 (flat elI.fl (atL ls s)))]:=if_neg h0
 generalize hq:(atL ls s).length=q at *
 have hvv:tV (tN s s) (atL ls s)=.slice (some ⟨7,0,none⟩) q q:=by rw [tV,if_neg (by omega),tN,if_pos rfl,hq]
 have key:∀ o,o=s*1→nth (tC s ls) o=some (.slice (some ⟨7,0,none⟩) q q):=fun o ho=>by rw [tC_nth (by omega) ho,hvv]
 unfold webR wcC
 rw [ho7]
 repeat' first
  |(((conv=>whnf);refine bm (fun g=>?_) (fun g=>?_)))
  |((conv=>whnf)
    refine boV (getTt D (i:=d.toNat) (by omega) ?_) ?_
    ·show _+Int.toNat d*5+4=_;omega)
  |((conv=>whnf)
    refine boV (key _ ?_) ?_
    ·show _+Int.toNat (atD D d.toNat).tt*1=_;omega)
 all_goals first
  |(exfalso;simp [cfgN,cfgS,std,bndK] at g;omega)
  |skip
 (conv=>whnf)
 refine⟨atL ls s,⟨hq.symm,_,_,_,_,rfl,by rw [List.drop_zero,List.take_length]⟩,?_⟩
 ((conv=>whnf);refine bm (fun g1=>?_) (fun g1=>?_))
 ·have hxo:(cfgN [Xf167]).A.num ((cfgN [Xf167]).A.bit BinOp.xor ((cfgN [Xf167]).A.toN d) ((cfgN [Xf167]).A.toN 1))=backI d:=xorI h1
  generalize (cfgN [Xf167]).A.num ((cfgN [Xf167]).A.bit BinOp.xor ((cfgN [Xf167]).A.toN d) ((cfgN [Xf167]).A.toN 1))=bk at hxo
  subst hxo
  generalize idxI (backI d) (atL ls s) 0=a at h7 h8 hnn
  have hix:0≤(a - 1+(q:Int)).tmod q∧(a - 1+(q:Int)).tmod q<q∧(a - 1+(q:Int)).tmod q=(a - 1+(q:Int)) % q:=by
   have e:(a - 1+(q:Int)).tmod q=(a - 1+(q:Int)) % q:=Int.tmod_eq_emod_of_nonneg (by omega)
   rw [e]
   exact⟨Int.emod_nonneg _ (by omega),Int.emod_lt_of_pos _ (by omega),rfl⟩
  have hget:∀ o,o=((a - 1+(q:Int)).tmod q).toNat*1→nth (flat elI.fl (atL ls s)) o=some (iv X):=fun o ho=>by
   rw [getI (atL ls s) (i:=((a - 1+(q:Int)).tmod q).toNat) (by omega) ho,hnn,hix.2.2]
  generalize hz:(a - 1+(q:Int)).tmod q=z at hix hget
  repeat' first
   |(((conv=>whnf);refine bm (fun g=>?_) (fun g=>?_)))
   |((conv=>whnf)
     refine boV (hget _ ?_) ?_
     ·show _+Int.toNat ((a - 1+(q:Int)).tmod q)*1=_;rw [hz];omega)
  all_goals first
   |(exfalso;simp [cfgN,cfgS,std,fitsK] at g;omega)
   |(exfalso
     have g:(decide (0≤(a - 1+(q:Int)).tmod q)&&decide ((a - 1+(q:Int)).tmod q<q))=false:=g
     rw [hz] at g
     simp at g
     omega)
   |(exfalso
     rename_i g4 g3 g2
     simp [cfgN,cfgS,std] at g2 g3 g4
     omega)
   |(conv=>whnf)
 ·have g1:decide ((atL ls s).length≤1000000)=false:=g1
  exact absurd g1 (by rw [decide_eq_true (by omega)];decide)
end Go.Aw
end

noncomputable section
namespace Go.Aw
set_option maxRecDepth 100000
set_option maxHeartbeats 2000000
def crI (l:List Pt)(D:List Dt)(d:Int):Int:=(at2 l (atD D d.toNat).fr.toNat).1*(at2 l (atD D d.toNat).tt.toNat).2 - (at2 l (atD D d.toNat).tt.toNat).1*(at2 l (atD D d.toNat).fr.toNat).2
def wbB (l:List Pt)(D:List Dt)(ls:List (List Int)):Bool:=l.all wide&&(D.all fun e=>decide (0≤e.fr)&&decide (e.fr<l.length)&&(decide (0≤e.tt)&&decide (e.tt<l.length)))&&decide (D.length≤1000)&&decide (ls.length=l.length)&&decide (l.length≤1000)
theorem wbB_at {l:List Pt}{D:List Dt}{ls:List (List Int)}(h:wbB l D ls=true){i:Nat}(hi:i<D.length):0≤(atD D i).fr∧(atD D i).fr<l.length∧0≤(atD D i).tt∧(atD D i).tt<l.length:=by
 simp only [wbB,Bool.and_eq_true] at h
 have:=List.all_eq_true.1 h.1.1.1.2 _ (List.getElem_mem hi)
 rw [atD_eq hi]
 simp only [Bool.and_eq_true,decide_eq_true_eq] at this
 omega
theorem wbB_pt {l:List Pt}{D:List Dt}{ls:List (List Int)}(h:wbB l D ls=true){i:Nat}(hi:i<l.length) : -1000000≤(at2 l i).1∧(at2 l i).1≤1000000∧-1000000≤(at2 l i).2∧(at2 l i).2≤1000000:=by
 simp only [wbB,Bool.and_eq_true] at h
 have:=List.all_eq_true.1 h.1.1.1.1 _ (List.getElem_mem hi)
 rw [at2_eq hi]
 unfold wide at this
 simp only [Bool.and_eq_true,decide_eq_true_eq] at this
 omega
theorem wbB_n {l:List Pt}{D:List Dt}{ls:List (List Int)}(h:wbB l D ls=true):D.length≤1000∧ls.length=l.length∧l.length≤1000:=by
 simp only [wbB,Bool.and_eq_true,decide_eq_true_eq] at h
 exact⟨h.1.1.2,h.1.2,h.2⟩
def crS (l:List Pt)(D:List Dt)(ls:List (List Int)):List Value→Option (Bool × Value)
 |[.int .i64 d]=>some (wbB l D ls&&decide (0≤d)&&decide (d<D.length),iv (crI l D d))
 |_=>none
theorem look_shT {s:Nat}{ls:List (List Int)}{n k:Nat}(h:k<1000∨1000+n≤k):look (shutH (tH s ls n)) k=none:=by
 rw [look_shutH,tH_none h]
 rfl
def Xf168:Nat × XF:=(168,wbX crS)
theorem prod_w {a b:Int}(h1 : -1000000≤a)(h2:a≤1000000)(h3 : -1000000≤b)(h4:b≤1000000) : -1000000000000≤a*b∧a*b≤1000000000000:=by
 have p1:0≤(1000000 - a)*(1000000+b):=Int.mul_nonneg (by omega) (by omega)
 have p2:0≤(1000000+a)*(1000000 - b):=Int.mul_nonneg (by omega) (by omega)
 have p3:0≤(1000000 - a)*(1000000 - b):=Int.mul_nonneg (by omega) (by omega)
 have p4:0≤(1000000+a)*(1000000+b):=Int.mul_nonneg (by omega) (by omega)
 simp only [Int.sub_mul,Int.add_mul,Int.mul_sub,Int.mul_add] at p1 p2 p3 p4
 omega
theorem xf168:XOK Go.Proofs.Tryz.prog Xf168.1 Xf168.2:=wbX_ok (body_calls (xl:=[]) .nil) fun l D ls r v hs=>by
 have:∃ d,r=[iv d]∧wbB l D ls=true∧0≤d∧d<D.length∧v=iv (crI l D d):=by
  unfold crS at hs
  split at hs
  ·rename_i d
   injection hs with hs;injection hs with h1 h2
   simp only [Bool.and_eq_true,decide_eq_true_eq] at h1
   exact⟨d,rfl,h1.1.1,h1.1.2,h1.2,h2.symm⟩
  ·cases hs
 obtain⟨d,rfl,hB,h1,h2,rfl⟩:=this
 clear hs
 have hn:=wbB_n hB
 refine⟨rfl,rfl,by omega,ls.length,fun nE c1 c2 n fo=>?_⟩
 have ho7:op7 (atL ls ls.length)=[]:=op7_out (Nat.le_refl _)
 obtain⟨b1,b2,b3,b4⟩:=wbB_at hB (i:=d.toNat) (by omega)
 have hp:=wbB_pt hB (i:=(atD D d.toNat).fr.toNat) (by omega)
 have hq:=wbB_pt hB (i:=(atD D d.toNat).tt.toNat) (by omega)
 unfold webR wcC
 rw [ho7]
 repeat' first
  |(((conv=>whnf);refine bm (fun g=>?_) (fun g=>?_)))
  |((conv=>whnf)
    refine boV (getTt D (i:=d.toNat) (by omega) ?_) ?_
    ·show _+Int.toNat d*5+4=_;omega)
  |((conv=>whnf)
    refine boV (getFr D (i:=d.toNat) (by omega) ?_) ?_
    ·show _+Int.toNat d*5+3=_;omega)
  |((conv=>whnf)
    refine boL (getPt l (i:=(atD D d.toNat).fr.toNat) (by omega) ?_) ?_
    ·show _+Int.toNat (atD D d.toNat).fr*2=_;omega)
  |((conv=>whnf)
    refine boL (getPt l (i:=(atD D d.toNat).tt.toNat) (by omega) ?_) ?_
    ·show _+Int.toNat (atD D d.toNat).tt*2=_;omega)
 all_goals first
  |(exfalso;simp [cfgS,std,fitsK] at g;omega)
  |(exfalso
    have g:(match look (shutH (tH ls.length ls ls.length)) 2000 with|none=>true|some _=>false)=false:=g
    rw [look_shT (by omega)] at g
    cases g)
  |(exfalso
    have m1:=prod_w hp.1 hp.2.1 hq.2.2.1 hq.2.2.2
    have m2:=prod_w hq.1 hq.2.1 hp.2.2.1 hp.2.2.2
    simp [cfgS,std,fitsK] at g
    omega)
  |((conv=>whnf)
    first
     |done
     |rfl)
def HOK (W:Heap)(b:Nat):Prop:=∀ k o,look W k=some o→k<b∧ObjRen id b o o
theorem ObjRen_low {b n0:Nat}{ρ:Nat→Nat}(hρ:∀ k,k<b→ρ k=k)(hb:b≤n0){o:AObj}(h:ObjRen id b o o):ObjRen ρ n0 o o:=by
 have key:∀ v,nmS b v→ren1 ρ v=ren1 id v:=fun v hv=>trS_eq (ι:=at0 id) (ι':=at0 ρ) (n:=b) (fun k hk=>by show Loc.lay _ _ _=Loc.lay _ _ _;rw [hρ k hk];rfl) hv
 have mono:∀ v,nmS b v→nmS n0 v:=fun v hv=>scS_mono (ι:=at0 id) (ι':=at0 id) hb (fun _ _=>rfl) hv
 cases o with
 |cells wr g sz cs =>
  obtain⟨h1,h2,h3,h4,h5⟩:=h
  refine⟨rfl,rfl,rfl,?_,fun v hv=>mono v (h5 v hv)⟩
  conv=>lhs;rw [h4]
  exact List.map_congr_left fun v hv=>(key v (h5 v hv)).symm
 |map es =>
  obtain⟨h1,h2⟩:=h
  refine⟨?_,fun v hv=>mono _ (h2 v hv)⟩
  conv=>lhs;rw [h1]
  exact List.map_congr_left fun v hv=>by rw [key _ (h2 v hv)]
 |zero=>trivial
 |loop l=>exact h.elim
 |deferred=>exact h.elim
theorem look_appL {W:Heap}{k:Nat}{o:AObj}:∀ {P:Heap},look (P++W) k=some o→(k,o)∈P∨look W k=some o
 |[],h=>.inr h
 |(j,q)::r,h=>by
  rw [List.cons_append,look_cons] at h
  split at h
  ·rename_i hb
   injection h with h
   subst h
   rw [beq_true hb]
   exact .inl (.head _)
  ·rcases look_appL h with h|h
   ·exact .inl (.tail _ h)
   ·exact .inr h
theorem Into_kp {b n0 nx:Nat}{I:KS}{e0 e:List (Nat × Value)}{P W h:Heap}(L:List (Nat × Nat))(hI:I e0 (P++W) n0)(he:∀ p∈e0,look e p.1=some (ren (rn L) p.2)∧nmT n0 p.2)(hW:HOK W b)(hk:∀ k o,look W k=some o→look h k=some o)
  (hP:∀ p∈P,b≤p.1∧p.1<n0∧b≤rn L p.1∧∃ o',look h (rn L p.1)=some o'∧ObjRen (rn L) n0 p.2 o') (hi:∀ k∈P.map Prod.fst,∀ k'∈P.map Prod.fst,rn L k=rn L k'→k=k') (hL:∀ p∈L,b≤p.1) (hb:b≤n0):Into b I e h nx:=by
 have hfix:∀ k,k<b→rn L k=k:=fun k hk=>by
  unfold rn
  split
  ·rename_i q hq
   have:=hL _ (look_mem hq)
   simp only at this
   omega
  ·rfl
 have hc:∀ k o,look (P++W) k=some o→(k,o)∈P∨look W k=some o:=fun k o h=>look_appL h
 refine⟨e0,P++W,n0,rn L,hI,fun t v hv=>he (t,v) (look_mem hv),fun k o hk'=>?_,fun k k' o o' h1 h2 e=>?_,hfix,hb⟩
 ·rcases hc k o hk' with hm|hm
  ·exact (hP _ hm).2.1 |> fun x=>⟨x,(hP _ hm).2.2.2⟩
  ·obtain⟨a1,a2⟩:=hW k o hm
   exact⟨by omega,o,by rw [hfix k a1];exact hk k o hm,ObjRen_low hfix hb a2⟩
 ·rcases hc k o h1 with m1|m1 <;> rcases hc k' o' h2 with m2|m2
  ·exact hi k (List.mem_map.2 ⟨_,m1,rfl⟩) k' (List.mem_map.2 ⟨_,m2,rfl⟩) e
  ·have:=(hP _ m1).2.2.1
   have b2:=(hW _ _ m2).1
   simp only at this
   rw [hfix k' b2] at e
   omega
  ·have:=(hP _ m2).2.2.1
   have b2:=(hW _ _ m1).1
   simp only at this
   rw [hfix k b2] at e
   omega
  ·rwa [hfix k (hW _ _ m1).1,hfix k' (hW _ _ m2).1] at e
theorem webR_hok {l:List Pt}{D:List Dt}{ls:List (List Int)}{nE c1 c2:Nat}{n:Int}{fo:Option (Nat × Nat)}{s:Nat}(hn:ls.length≤1000):HOK (webR l D ls nE c1 c2 n fo s) 2000:=by
 intro k o hk
 have hsl:∀ {q a b:Nat},q<2000→nmS 2000 (.slice (some ⟨q,0,none⟩) a b):=fun hq=>⟨hq,fun h=>by cases h⟩
 have hfix:∀ {cs:List Value},(∀ v∈cs,ren1 id v=v)→cs=cs.map (ren1 id):=fun {cs} h=>by
  conv=>lhs;rw [← List.map_id cs]
  exact List.map_congr_left fun v hv=>(h v hv).symm
 rcases webR_mem (look_mem hk) with ⟨rfl,rfl⟩|⟨rfl,rfl⟩|⟨rfl,rfl⟩|⟨rfl,rfl⟩|⟨i,hi,h0,rfl,rfl⟩
 ·refine⟨by omega,rfl,rfl,rfl,?_,?_⟩
  ·show _=[_,_,_,_,_,ren1 _ (fcV 6 fo)]
   rw [fcV_ren]
   rfl
  ·unfold wcC
   exact List.forall_mem_cons.2 ⟨hsl (by omega),List.forall_mem_cons.2 ⟨hsl (by omega),List.forall_mem_cons.2 ⟨scS_g rfl,List.forall_mem_cons.2 ⟨hsl (by omega),List.forall_mem_cons.2 ⟨hsl (by omega),List.forall_mem_cons.2 ⟨fcV_nm (by omega),fun _ h=>(by cases h)⟩⟩⟩⟩⟩⟩
 ·exact⟨by omega,ObjRen_g (flat_g _ _)⟩
 ·exact⟨by omega,rfl,rfl,rfl,tC_ren (ρ:=id) (tC_len _ _) fun i hi=>tC_at hi,tC_nm (by omega) (by omega)⟩
 ·exact⟨by omega,ObjRen_g (flat_g _ _)⟩
 ·exact⟨tN_lt (by omega),ObjRen_g (flat_g _ _)⟩
theorem HOK_cons {W:Heap}{b k:Nat}{o:AObj}(h:HOK W b)(hk:k<b)(ho:ObjRen id b o o):HOK ((k,o)::W) b:=by
 intro j q hj
 rw [look_cons] at hj
 split at hj
 ·rename_i hb
  injection hj with hj
  subst hj
  exact⟨by rw [← beq_true hb];exact hk,ho⟩
 ·exact h j q hj
def wbLX (s:List Pt→List Dt→List (List Int)→List Int→Option (Bool × Value)):XF:=fun args h nx K =>
 ∃ p k3 k0 k1 kd kt kf nm l D ls nE c1 c2 n fo L c,args=[.pointer (some ⟨p,0,none⟩),.slice (some ⟨k3,0,none⟩) L.length c]∧WebAt h p k0 k1 kd kt kf nm l D ls nE c1 c2 n fo ∧
   (∃ wr g sz cs,look h k3=some (.cells wr g sz cs)∧cs.take (flat elI.fl L).length=flat elI.fl L)∧(match s l D ls L with|some pr=>must pr.1 (K pr.2 h nx)|none=>False)
theorem wbLX_ok {P:Program}{C:VC}{f:Nat}{s:List Pt→List Dt→List (List Int)→List Int→Option (Bool × Value)}(hC:CallsOK P C)
  (hs:∀ l D ls L v,s l D ls L=some (true,v)→gT v=true∧ls.length≤1000∧∃ s0,∀ nE c1 c2 n fo c,C f [.pointer (some ⟨0,0,none⟩),.slice (some ⟨3,0,none⟩) L.length c] ((3,.cells false true 1 (flat elI.fl L))::webR l D ls nE c1 c2 n fo s0) 2000 (fun u _ _=>u=v)):XOK P f (wbLX s):=by
 refine (xOf_ok (S:=fun args0 h0 n0 v1 h1 k=>∃ l D ls L c s0 nE c1 c2 n fo,gT v1=true∧C f [.pointer (some ⟨0,0,none⟩),.slice (some ⟨3,0,none⟩) L.length c] ((3,.cells false true 1 (flat elI.fl L))::webR l D ls nE c1 c2 n fo s0) 2000 (fun u _ _=>u=v1)∧args0=[.pointer (some ⟨0,0,none⟩),.slice (some ⟨3,0,none⟩) L.length c]∧h0=(3,.cells false true 1 (flat elI.fl L))::webR l D ls nE c1 c2 n fo s0∧n0=2000∧h1=[]∧k=0) hC ?_).mono ?_ ?_
 ·rintro args0 h0 n0 v1 h1 k ⟨l,D,ls,L,c,s0,nE,c1,c2,n,fo,e2,e3,rfl,rfl,rfl,rfl,rfl⟩
  exact⟨rfl,_,e3,fun v h nx e=>by rw [e];exact Outc_g e2⟩
 ·rintro args h nx K ⟨p,k3,k0,k1,kd,kt,kf,nm,l,D,ls,nE,c1,c2,n,fo,L,c,rfl,hw,hL,hx⟩
  split at hx
  case h_2=>exact hx.elim
  rename_i pr e1
  obtain⟨bb,u⟩:=pr
  obtain⟨rfl,hx⟩:=must_iff.1 hx
  obtain⟨a2,a3,s0,a4⟩:=hs l D ls L u e1
  refine⟨_,_,2000,u,[],0,⟨l,D,ls,L,c,s0,nE,c1,c2,n,fo,a2,a4 nE c1 c2 n fo c,rfl,rfl,rfl,rfl,rfl⟩,In_webL hw a3 s0 hL,?_⟩
  simp only [past,ownH,shH,app_nil,ren_g a2,Nat.add_zero]
  exact hx
 ·rintro args h nx K ⟨p,k3,k0,k1,kd,kt,kf,nm,l,D,ls,nE,c1,c2,n,fo,L,c,rfl,hw,hL,hx⟩
  split at hx
  case h_2=>exact hx.elim
  rename_i pr e1
  obtain⟨hb,hx⟩:=must_iff.1 hx
  exact⟨pr.2,h,nx,hx,fun K' hk=>⟨p,k3,k0,k1,kd,kt,kf,nm,l,D,ls,nE,c1,c2,n,fo,L,c,rfl,hw,hL,by rw [e1];exact must_of hb hk⟩⟩
theorem ext_cons {W h:Heap}{q:Nat}{v:AObj}(hx:∀ k o,look W k=some o→look h k=some o)(hq:look W q=none):∀ k o,look W k=some o→look ((q,v)::h) k=some o:=fun k o hk=>by
 rw [look_ne (fun e=>by rw [e,hk] at hq;cases hq)]
 exact hx k o hk
theorem webR_no {l:List Pt}{D:List Dt}{ls:List (List Int)}{nE c1 c2:Nat}{n:Int}{fo:Option (Nat × Nat)}{s q:Nat}(hn:ls.length≤1000)(hq:q=3∨2000≤q):look (webR l D ls nE c1 c2 n fo s) q=none:=by
 cases hl:look (webR l D ls nE c1 c2 n fo s) q with
 |none=>rfl
 |some o =>
  exfalso
  rcases webR_mem (look_mem hl) with ⟨h,_⟩|⟨h,_⟩|⟨h,_⟩|⟨h,_⟩|⟨i,h1,_,h,_⟩
  ·omega
  ·omega
  ·omega
  ·omega
  ·unfold tN at h
   split at h <;> omega
theorem webR_look {l:List Pt}{D:List Dt}{ls:List (List Int)}{nE c1 c2:Nat}{n:Int}{fo:Option (Nat × Nat)}{s i:Nat}(hi:i<ls.length)(h0:(atL ls i).length≠0):look (webR l D ls nE c1 c2 n fo s) (tN s i)=some (.cells false false 1 (flat elI.fl (atL ls i))):=by
 unfold tN
 by_cases e:i=s
 ·subst e
  rw [if_pos rfl]
  unfold webR
  rw [look_ne (by omega),look_ne (by omega),look_ne (by omega),look_ne (by omega),show op7 (atL ls i)=[(7,ob (atL ls i))] from if_neg h0]
  rfl
 ·rw [if_neg e]
  unfold webR
  rw [look_ne (by omega),look_ne (by omega),look_ne (by omega),look_ne (by omega)]
  have key:look (shutH (tH s ls ls.length)) (i+1000)=some (.cells false false 1 (flat elI.fl (atL ls i))):=by
   rw [look_shutH,tH_look e h0 hi]
   rfl
  unfold op7
  split
  ·exact key
  ·show look ((7,_)::shutH (tH s ls ls.length)) _=_
   rw [look_ne (by omega)]
   exact key
theorem webR_at {h:Heap}{l:List Pt}{D:List Dt}{ls:List (List Int)}{nE c1 c2:Nat}{n:Int}{fo:Option (Nat × Nat)}{s:Nat}(hx:∀ k o,look (webR l D ls nE c1 c2 n fo s) k=some o→look h k=some o):WebAt h 0 4 5 1 2 6 (tN s) l D ls nE c1 c2 n fo :=
 ⟨⟨_,_,_,hx 0 _ rfl⟩,⟨_,_,_,_,hx 4 _ rfl,List.take_length⟩,⟨_,_,_,_,hx 1 _ rfl,List.take_length⟩,⟨_,_,_,hx 2 _ rfl⟩,fun i hi h0=>⟨_,_,_,_,hx _ _ (webR_look hi h0),List.take_length⟩⟩
def arI (l:List Pt)(D:List Dt)(L:List Int):Nat→Int
 |0=>0
 |i+1=>arI l D L i+crI l D (atI L i)
theorem crI_le {l:List Pt}{D:List Dt}{ls:List (List Int)}(h:wbB l D ls=true){d:Int}(h1:0≤d)(h2:d<D.length) : -2000000000000≤crI l D d∧crI l D d≤2000000000000:=by
 obtain⟨b1,b2,b3,b4⟩:=wbB_at h (i:=d.toNat) (by omega)
 have hp:=wbB_pt h (i:=(atD D d.toNat).fr.toNat) (by omega)
 have hq:=wbB_pt h (i:=(atD D d.toNat).tt.toNat) (by omega)
 have m1:=prod_w hp.1 hp.2.1 hq.2.2.1 hq.2.2.2
 have m2:=prod_w hq.1 hq.2.1 hp.2.2.1 hp.2.2.2
 unfold crI
 omega
theorem arI_le {l:List Pt}{D:List Dt}{ls:List (List Int)}(h:wbB l D ls=true){L:List Int}(hL:inR D L=true):∀ i:Nat,i≤L.length→-2000000000000*(i:Int)≤arI l D L i∧arI l D L i≤2000000000000*(i:Int)
 |0,_=>by unfold arI;omega
 |i+1,hi=>by
  have ih:=arI_le h hL i (by omega)
  have hd:=inR_at hL (i:=i) (by omega)
  have:=crI_le h hd.1 hd.2
  unfold arI
  omega
theorem crS_ok {l:List Pt}{D:List Dt}{ls:List (List Int)}{d:Int}(h:wbB l D ls=true)(h1:0≤d)(h2:d<D.length):crS l D ls [iv d]=some (true,iv (crI l D d)):=by
 show some (wbB l D ls&&decide (0≤d)&&decide (d<D.length),iv (crI l D d))=_
 rw [h,decide_eq_true h1,decide_eq_true h2]
 rfl
def arS (l:List Pt)(D:List Dt)(ls:List (List Int))(L:List Int):Option (Bool × Value):=some (wbB l D ls&&inR D L&&decide (L.length≤100000),iv (arI l D L L.length))
def e89 (N c:Nat)(a j:Int):List (Nat × Value):=[(0,.pointer (some ⟨0,0,none⟩)),(5,iv a),(8,.slice (some ⟨3,0,none⟩) N c),(9,iv N),(10,iv j)]
def Xf89:Nat × XF:=(89,wbLX arS)
theorem xf89:XOK Go.Proofs.Tryz.prog Xf89.1 Xf89.2:=wbLX_ok (f:=89) (s:=arS) (body_calls (xl:=[Xf168]) (.cons xf168 .nil)) fun l D ls L v hs=>by
 have:wbB l D ls=true∧inR D L=true∧L.length≤100000∧v=iv (arI l D L L.length):=by
  unfold arS at hs
  injection hs with hs;injection hs with h1 h2
  simp only [Bool.and_eq_true,decide_eq_true_eq] at h1
  exact⟨h1.1.1,h1.1.2,h1.2,h2.symm⟩
 obtain⟨hB,hL,hl,rfl⟩:=this
 clear hs
 have hn:=wbB_n hB
 refine⟨rfl,by omega,ls.length,fun nE c1 c2 n fo c=>?_⟩
 (conv=>whnf)
 refine⟨fun q e h nx=>∃ (i:Nat) (j:Int),j=i∧i≤L.length∧q=L.length - i∧e=e89 L.length c (arI l D L i) j∧h=(3,.cells false true 1 (flat elI.fl L))::webR l D ls nE c1 c2 n fo ls.length∧nx=2000,⟨L.length,?_⟩,?_⟩
 ·refine Into_kp (P:=[]) (W:=(3,.cells false true 1 (flat elI.fl L))::webR l D ls nE c1 c2 n fo ls.length) (e0:=e89 L.length c 0 0) (n0:=2000) [] ⟨0,0,rfl,Nat.zero_le _,rfl,rfl,rfl,rfl⟩ ?_ (HOK_cons (webR_hok (by omega)) (by omega) (ObjRen_g (flat_g _ _))) (fun k o hk=>hk) (fun _ h=>(by cases h)) (fun _ h=>(by cases h)) (fun _ h=>(by cases h)) (Nat.le_refl _)
  unfold e89;((repeat'(refine List.forall_mem_cons.2 ⟨⟨rfl,?_⟩,?_⟩;(first|exact scT_g rfl|exact⟨by decide,rfl⟩|exact⟨by decide,fun h=>(by cases h)⟩)));exact fun _ h=>(by cases h))
 ·rintro q e h nx ⟨i,j,hj,hi,rfl,rfl,rfl,rfl⟩
  unfold e89
  ((conv=>whnf);refine bm (fun h1=>?_) (fun h1=>?_))
  ·have hlt:i<L.length:=by simp [cfgS,std] at h1;omega
   have hd:=inR_at hL (i:=i) hlt
   ((conv=>whnf);refine bm (fun h2=>?_) (fun h2=>?_))
   ·(conv=>whnf)
    refine boV (getI L (i:=i) hlt ?_) ?_
    ·show _+Int.toNat j*1=_;omega
    (conv=>whnf)
    refine⟨0,[iv (atI L i)],4,5,1,2,6,tN ls.length,l,D,ls,nE,c1,c2,n,fo,rfl,webR_at (ext_cons (fun _ _ h=>h) (webR_no (by omega) (.inl rfl))),?_⟩
    rw [crS_ok hB hd.1 hd.2]
    refine must_of rfl ?_
    have a1:=arI_le hB hL i (by omega)
    have a2:=crI_le hB hd.1 hd.2
    have hs:arI l D L (i+1)=arI l D L i+crI l D (atI L i):=rfl
    generalize arI l D L i=X at a1 hs ⊢
    generalize crI l D (atI L i)=Y at a2 hs ⊢
    ((conv=>whnf);refine bm (fun h3=>?_) (fun h3=>?_))
    ·((conv=>whnf);refine bm (fun h4=>?_) (fun h4=>?_))
     ·(conv=>whnf)
      refine⟨L.length - (i+1),by omega,?_⟩
      refine Into_kp (P:=[]) (W:=(3,.cells false true 1 (flat elI.fl L))::webR l D ls nE c1 c2 n fo ls.length) (e0:=e89 L.length c (X+Y) (j+1)) (n0:=2000) [] ⟨i+1,j+1,by omega,by omega,rfl,by rw [hs];rfl,rfl,rfl⟩ ?_ (HOK_cons (webR_hok (by omega)) (by omega) (ObjRen_g (flat_g _ _))) (fun k o hk=>hk) (fun _ h=>(by cases h)) (fun _ h=>(by cases h)) (fun _ h=>(by cases h)) (Nat.le_refl _)
      unfold e89;((repeat'(refine List.forall_mem_cons.2 ⟨⟨rfl,?_⟩,?_⟩;(first|exact scT_g rfl|exact⟨by decide,rfl⟩|exact⟨by decide,fun h=>(by cases h)⟩)));exact fun _ h=>(by cases h))
     ·exfalso;simp [cfgS,std,fitsK] at h4;omega
    ·exfalso;simp [cfgS,std,fitsK] at h3;omega
   ·exfalso;simp [cfgS,std] at h2;omega
  ·have hge:i=L.length:=by simp [cfgS,std] at h1;omega
   subst hge
   (conv=>whnf)
end Go.Aw
end

noncomputable section
namespace Go.Aw
set_option maxRecDepth 100000
set_option maxHeartbeats 2000000
def wbYX (s:List Pt→List Dt→List (List Int)→List Value→YS Int):XF:=fun args h nx K =>
 ∃ p r k0 k1 kd kt kf nm l D ls nE c1 c2 n fo,args=.pointer (some ⟨p,0,none⟩)::r∧WebAt h p k0 k1 kd kt kf nm l D ls nE c1 c2 n fo ∧
 (match s l D ls r with|some pr=>must pr.1 (K (ylV pr.2.1 pr.2.2 nx) (hput h nx (.cells true false 1 (flat elI.fl pr.2.1))) (nx+1))|none=>False)
theorem wbYX_ok {P:Program}{C:VC}{f:Nat}{s:List Pt→List Dt→List (List Int)→List Value→YS Int}(hC:CallsOK P C)
  (hs:∀ l D ls r out rest,s l D ls r=some (true,out,rest)→allGA r=true∧allG rest=true∧ls.length≤1000∧∃ s0,∀ nE c1 c2 n fo,C f (.pointer (some ⟨0,0,none⟩)::r) (webR l D ls nE c1 c2 n fo s0) 2000 (YW elI out rest)):XOK P f (wbYX s):=by
 refine (xOf_ok (S:=fun args0 h0 n0 v1 h1 k=>∃ l D ls r s0 nE c1 c2 n fo out rest,allG rest=true∧C f (.pointer (some ⟨0,0,none⟩)::r) (webR l D ls nE c1 c2 n fo s0) 2000 (YW elI out rest)∧args0=.pointer (some ⟨0,0,none⟩)::r∧h0=webR l D ls nE c1 c2 n fo s0∧n0=2000∧v1=ylV out rest 0∧h1=ylH elI out∧k=1) hC ?_).mono ?_ ?_
 ·rintro args0 h0 n0 v1 h1 k ⟨l,D,ls,r,s0,nE,c1,c2,n,fo,out,rest,e2,e3,rfl,rfl,rfl,rfl,rfl,rfl⟩
  exact⟨rfl,_,e3,fun v h nx e=>YW_out elI e2 e⟩
 ·rintro args h nx K ⟨p,r,k0,k1,kd,kt,kf,nm,l,D,ls,nE,c1,c2,n,fo,rfl,hw,hx⟩
  split at hx
  case h_2=>exact hx.elim
  rename_i pr e1
  obtain⟨bb,out,rest⟩:=pr
  obtain⟨rfl,hx⟩:=must_iff.1 hx
  obtain⟨a1,a2,a3,s0,a4⟩:=hs l D ls r out rest e1
  exact⟨_,_,2000,_,_,1,⟨l,D,ls,r,s0,nE,c1,c2,n,fo,out,rest,a2,a4 nE c1 c2 n fo,rfl,rfl,rfl,rfl,rfl,rfl⟩,In_web hw a3 s0 a1,YW_in elI a2 hx⟩
 ·rintro args h nx K ⟨p,r,k0,k1,kd,kt,kf,nm,l,D,ls,nE,c1,c2,n,fo,rfl,hw,hx⟩
  split at hx
  case h_2=>exact hx.elim
  rename_i pr e1
  obtain⟨hb,hx⟩:=must_iff.1 hx
  exact⟨_,_,_,hx,fun K' hk=>⟨p,r,k0,k1,kd,kt,kf,nm,l,D,ls,nE,c1,c2,n,fo,rfl,hw,by rw [e1];exact must_of hb hk⟩⟩
theorem ext_hput {W h:Heap}{q:Nat}{v:AObj}(hx:∀ k o,look W k=some o→look h k=some o)(hq:look W q=none):∀ k o,look W k=some o→look (hput h q v) k=some o:=ext_cons hx hq
theorem ext_rem {W h:Heap}{q:Nat}(hx:∀ k o,look W k=some o→look h k=some o)(hq:look W q=none):∀ k o,look W k=some o→look (rem h q) k=some o:=fun k o hk=>by
 rw [look_rem,if_neg (fun e=>by rw [e,hq] at hk;cases hk)]
 exact hx k o hk
theorem ext_upd {W h:Heap}{q:Nat}{v:AObj}(hx:∀ k o,look W k=some o→look h k=some o)(hq:look W q=none):∀ k o,look W k=some o→look (upd h q v) k=some o:=fun k o hk=>by
 rw [look_upd_ne _ _ (fun e=>by rw [e,hq] at hk;cases hk)]
 exact hx k o hk
def itN (D:List Dt)(ls:List (List Int))(d:Int):Nat→Int
 |0=>d
 |i+1=>nxI D ls (itN D ls d i)
def perI (D:List Dt)(ls:List (List Int))(d:Int):Nat→Nat→Nat
 |0,i=>i
 |k+1,i=>if itN D ls d i=d then i else perI D ls d k (i+1)
theorem perI_low (D:List Dt)(ls:List (List Int))(d:Int):∀ (k i:Nat),i≤perI D ls d k i∧perI D ls d k i≤i+k∧∀ t,i≤t→t<perI D ls d k i→itN D ls d t≠d
 |0,i=>by unfold perI;exact⟨Nat.le_refl _,Nat.le_refl _,fun t h1 h2=>by omega⟩
 |k+1,i=>by
  unfold perI
  split
  ·exact⟨Nat.le_refl _,by omega,fun t h1 h2=>by omega⟩
  ·rename_i h
   obtain⟨h1,h2,h3⟩:=perI_low D ls d k (i+1)
   refine⟨by omega,by omega,fun t h4 h5=>?_⟩
   by_cases e:t=i
   ·rw [e];exact h
   ·exact h3 t (by omega) h5
def perD (D:List Dt)(ls:List (List Int))(d:Int):Nat:=perI D ls d D.length 1
def wkD (D:List Dt)(ls:List (List Int))(d:Int):List Int:=(List.range (perD D ls d)).map (itN D ls d)
def webB (l:List Pt)(D:List Dt)(ls:List (List Int)):Bool:=wbB l D ls&&(List.range D.length).all fun i=>nxB D ls i&&(decide (0≤nxI D ls i)&&decide (nxI D ls i<D.length))
theorem webB_at {l:List Pt}{D:List Dt}{ls:List (List Int)}(h:webB l D ls=true){d:Int}(h1:0≤d)(h2:d<D.length):nxB D ls d=true∧0≤nxI D ls d∧nxI D ls d<D.length:=by
 simp only [webB,Bool.and_eq_true] at h
 have:=List.all_eq_true.1 h.2 d.toNat (List.mem_range.2 (by omega))
 rw [Int.toNat_of_nonneg h1] at this
 simp only [Bool.and_eq_true,decide_eq_true_eq] at this
 exact⟨this.1,this.2⟩
theorem webB_wb {l:List Pt}{D:List Dt}{ls:List (List Int)}(h:webB l D ls=true):wbB l D ls=true:=by
 simp only [webB,Bool.and_eq_true] at h
 exact h.1
theorem itN_in {l:List Pt}{D:List Dt}{ls:List (List Int)}(h:webB l D ls=true){d:Int}(h1:0≤d)(h2:d<D.length):∀ i,0≤itN D ls d i∧itN D ls d i<D.length
 |0=>⟨h1,h2⟩
 |i+1=>by
  have ih:=itN_in h h1 h2 i
  exact (webB_at h ih.1 ih.2).2
def wkS (l:List Pt)(D:List Dt)(ls:List (List Int)):List Value→YS Int
 |[.int .i64 d]=>some (webB l D ls&&decide (0≤d)&&decide (d<D.length)&&decide (itN D ls d (perD D ls d)=d),wkD D ls d,[])
 |_=>none
def itL (D:List Dt)(ls:List (List Int))(d:Int)(i:Nat):List Int:=(List.range i).map (itN D ls d)
theorem itL_len (D:List Dt)(ls:List (List Int))(d:Int)(i:Nat):(itL D ls d i).length=i:=by simp [itL]
theorem itL_s (D:List Dt)(ls:List (List Int))(d:Int)(i:Nat):itL D ls d (i+1)=itL D ls d i++[itN D ls d i]:=by
 unfold itL
 rw [List.range_succ,List.map_append]
 rfl
theorem nxS_ok {l:List Pt}{D:List Dt}{ls:List (List Int)}{d:Int}(h:nxB D ls d=true):nxS l D ls [iv d]=some (true,iv (nxI D ls d)):=by
 show some (nxB D ls d,iv (nxI D ls d))=_
 rw [h]
def e83 (d:Int)(i:Nat)(x:Int):List (Nat × Value):=[(0,.pointer (some ⟨0,0,none⟩)),(1,iv d),(5,.slice (some ⟨2000,0,none⟩) i i),(6,iv x)]
def Xf83:Nat × XF:=(83,wbYX wkS)
theorem xf83:XOK Go.Proofs.Tryz.prog Xf83.1 Xf83.2:=wbYX_ok (f:=83) (s:=wkS) (body_calls (xl:=[Xf78]) (.cons xf78 .nil)) fun l D ls r out rest hs=>by
 have:∃ d,r=[iv d]∧webB l D ls=true∧0≤d∧d<D.length∧itN D ls d (perD D ls d)=d∧out=wkD D ls d∧rest=[]:=by
  unfold wkS at hs
  split at hs
  ·rename_i d
   injection hs with hs;injection hs with h1 h2;injection h2 with h2 h3
   simp only [Bool.and_eq_true,decide_eq_true_eq] at h1
   exact⟨d,rfl,h1.1.1.1,h1.1.1.2,h1.1.2,h1.2,h2.symm,h3.symm⟩
  ·cases hs
 obtain⟨d,rfl,hB,h1,h2,h3,rfl,rfl⟩:=this
 clear hs
 have hn:=wbB_n (webB_wb hB)
 have hlow:=perI_low D ls d D.length 1
 have hin:=itN_in hB h1 h2
 refine⟨rfl,rfl,by omega,ls.length,fun nE c1 c2 n fo=>?_⟩
 have hout:wkD D ls d=itL D ls d (perD D ls d):=rfl
 have hno:∀ q,2000≤q→look (webR l D ls nE c1 c2 n fo ls.length) q=none:=fun q hq=>webR_no (by omega) (.inr hq)
 rw [hout]
 unfold perD at h3 ⊢
 generalize perI D ls d D.length 1=N at h3 hlow ⊢
 obtain⟨hN1,hN2,hN3⟩:=hlow
 (conv=>whnf)
 refine⟨0,[iv d],4,5,1,2,6,tN ls.length,l,D,ls,nE,c1,c2,n,fo,rfl,webR_at (ext_cons (fun _ _ h=>h) (webR_no (by omega) (.inr (Nat.le_refl _)))),?_⟩
 rw [nxS_ok (webB_at hB h1 h2).1]
 refine must_of rfl ?_
 (conv=>whnf)
 refine⟨fun q e h nx=>∃ i:Nat,1≤i∧i≤N∧q=N - i∧e=e83 d i (itN D ls d i)∧h=[(2000,.cells true false 1 (flat elI.fl (itL D ls d i)))]++webR l D ls nE c1 c2 n fo ls.length∧nx=2001,⟨N - 1,?_⟩,?_⟩
 ·refine Into_kp (P:=[(2000,.cells true false 1 (flat elI.fl (itL D ls d 1)))]) (W:=webR l D ls nE c1 c2 n fo ls.length) (e0:=e83 d 1 (itN D ls d 1)) (n0:=2001) [] ⟨1,Nat.le_refl _,hN1,rfl,rfl,rfl,rfl⟩ ?_ (webR_hok (by omega)) (ext_cons (fun _ _ h=>h) (webR_no (by omega) (.inr (Nat.le_refl _)))) ?_ ?_ (fun _ h=>(by cases h)) (by omega)
  ·unfold e83;((repeat'(refine List.forall_mem_cons.2 ⟨⟨rfl,?_⟩,?_⟩;(first|exact scT_g rfl|exact⟨by decide,rfl⟩|exact⟨by decide,fun h=>(by cases h)⟩)));exact fun _ h=>(by cases h))
  ·exact List.forall_mem_cons.2 ⟨⟨Nat.le_refl _,Nat.lt_succ_self _,Nat.le_refl _,_,rfl,ObjRen_j (flat_g _ _) rfl⟩,fun _ h=>(by cases h)⟩
  ·show ∀ k∈[2000],∀ k'∈[2000],_
   decide
 ·rintro q e h nx ⟨i,hi1,hi,rfl,rfl,rfl,rfl⟩
  unfold e83
  ((conv=>whnf);refine bm (fun g1=>?_) (fun g1=>?_))
  ·have hx:itN D ls d i≠d:=by simpa [cfgS,std] using g1
   have hlt:i<N:=by
    refine Decidable.byContradiction fun hc=>hx ?_
    rw [show i=N by omega];exact h3
   have hB':=webB_at hB (hin i).1 (hin i).2
   have hs:itL D ls d (i+1)=itL D ls d i++[itN D ls d i]:=itL_s D ls d i
   have hll:=itL_len D ls d i
   have hnx:itN D ls d (i+1)=nxI D ls (itN D ls d i):=rfl
   generalize itL D ls d i=M at hs hll ⊢
   repeat' first
    |((conv=>whnf)
      refine bm1 (k:=i) ?_)
    |(((conv=>whnf);refine bm (fun g=>?_) (fun g=>?_)))
   ·(conv=>whnf)
    refine⟨0,[iv (itN D ls d i)],4,5,1,2,6,tN ls.length,l,D,ls,nE,c1,c2,n,fo,rfl,webR_at ?_,?_⟩
    ·exact ext_hput (ext_rem (ext_hput (ext_cons (fun _ _ h=>h) (hno _ (by omega))) (hno _ (by omega))) (hno _ (by omega))) (hno _ (by omega))
    ·rw [nxS_ok hB'.1]
     refine must_of rfl ?_
     (conv=>whnf)
     refine⟨N - (i+1),by omega,?_⟩
     refine Into_kp (P:=[(2000,.cells true false 1 (flat elI.fl (itL D ls d (i+1))))]) (W:=webR l D ls nE c1 c2 n fo ls.length) (e0:=e83 d (i+1) (itN D ls d (i+1))) (n0:=2001) [(2000,2002)] ⟨i+1,by omega,by omega,rfl,rfl,rfl,rfl⟩ ?_ (webR_hok (by omega)) ?_ ?_ ?_ (by decide) (by omega)
     ·unfold e83;((repeat'(refine List.forall_mem_cons.2 ⟨⟨rfl,?_⟩,?_⟩;(first|exact scT_g rfl|exact⟨by decide,rfl⟩|exact⟨by decide,fun h=>(by cases h)⟩)));exact fun _ h=>(by cases h))
     ·exact ext_hput (ext_rem (ext_hput (ext_cons (fun _ _ h=>h) (hno _ (by omega))) (hno _ (by omega))) (hno _ (by omega))) (hno _ (by omega))
     ·refine List.forall_mem_cons.2 ⟨⟨Nat.le_refl _,Nat.lt_succ_self _,Nat.le_of_ble_eq_true rfl,_,rfl,ObjRen_j (flat_g _ _) ?_⟩,fun _ h=>(by cases h)⟩
      rw [hs,← flat_growE elI M (itN D ls d i) (n:=i) hll.symm]
      rfl
     ·show ∀ k∈[2000],∀ k'∈[2000],_
      decide
   ·exact app_no (by rw [flat_len,hll];rfl) (by omega) g
  ·have hx:itN D ls d i=d:=by simpa [cfgS,std] using g1
   have hge:i=N:=by
    refine Decidable.byContradiction fun hc=>hN3 i hi1 (by omega) hx
   subst hge
   (conv=>whnf)
   refine⟨2000,?_,rfl⟩
   unfold ylV
   rw [itL_len]
   rfl
end Go.Aw
end
