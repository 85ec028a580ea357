/-
  PlaneAreas: the triangles that Triangles finds have the area of the polygon together, CheckTriangles accepts them, and their points are those of the polygon No condition.
-/
import Derived.Test.YtoekkmbbbllogaaGreatQAw
import Derived.Test.YtoekkmbbbllogaaGreatQAz
import Derived.Test.YtoekkmbbbllogaaGreatQBa
import Derived.Test.YtoekkmbbbllogaaGreatQBh
import Derived.Test.YtoekkmbbbllogaaGreatQBi
set_option linter.unusedSimpArgs false
set_option linter.unusedVariables false
noncomputable section
namespace Go.Aw
theorem holdB_clT (a b c p:Pq):holdB a b c p=true↔clT a b c p:=by
 unfold holdB clT turnS
 simp only [Bool.and_eq_true,decide_eq_true_eq,sgn_nn]
 exact⟨fun h=>⟨h.1.1,h.1.2,h.2⟩,fun h=>⟨⟨h.1,h.2.1⟩,h.2.2⟩⟩
theorem clearB_iff (a b c p:Pq):clearB a b c p=true↔(p≠a→p≠b→p≠c→¬ clT a b c p):=by
 unfold clearB
 rw [← holdB_clT]
 simp only [Bool.or_eq_true,eqP_iff,Bool.not_eq_true',Bool.not_eq_true]
 by_cases h1:p=a <;> by_cases h2:p=b <;> by_cases h3:p=c <;> simp [h1,h2,h3]
theorem earB_iff (l:List Pq)(i:Nat):earB l i=true↔0<crossI (prv l i) (at2 l i) (nxt l i)∧∀ z∈l,z≠prv l i→z≠at2 l i→z≠nxt l i→¬ clT (prv l i) (at2 l i) (nxt l i) z:=by
 unfold earB
 simp only [Bool.and_eq_true,decide_eq_true_eq,turn_pos,List.all_eq_true,clearB_iff]
theorem sides_at {l:List Pq}(h:0<l.length){i:Nat}(hi:i<l.length):(prv l i,at2 l i)∈cl l∧(at2 l i,nxt l i)∈cl l:=by
 have hk:(i+l.length - 1) % l.length<l.length:=Nat.mod_lt _ h
 refine⟨(cl_ix _).2 ⟨(i+l.length - 1) % l.length,hk,?_⟩,(cl_ix _).2 ⟨i,hi,rfl⟩⟩
 unfold edgeS prv
 congr 2
 by_cases h0:i=0
 ·subst h0
  rw [Nat.zero_add,Nat.mod_eq_of_lt (show l.length - 1<l.length by omega),show l.length - 1+1=l.length by omega,Nat.mod_self]
 ·have e:(i+l.length - 1) % l.length=i - 1:=by
   rw [show i+l.length - 1=(i - 1)+l.length by omega,Nat.add_mod_right,Nat.mod_eq_of_lt (by omega)]
  rw [e,show i - 1+1=i by omega,Nat.mod_eq_of_lt hi]
theorem has_ear {l:List Pq}(h:Simp l)(ha:0<ar l):∃ i,i<l.length∧earB l i=true:=by
 have h3:=h.len
 obtain⟨s1,s2⟩:=sides_at (l:=l) (by omega) (i:=0) (by omega)
 obtain⟨b,r,a,he,-,-⟩:=h.ears _ l rfl ha _ _ s2
 obtain⟨i,hi,e1⟩:=(cl_ix _).1 he.s2
 obtain⟨t1,t2⟩:=sides_at (l:=l) (by omega) hi
 have er:r=at2 l i:=congrArg Prod.fst e1
 have ea:a=nxt l i:=congrArg Prod.snd e1
 have eb:b=prv l i:=by
  obtain⟨K,hS⟩:=at_corner h t1 t2
  have:=(at_first (hS.simp h).nodup ((hS.cl _).2 (er▸he.s1))).2.1 rfl
  exact this
 refine⟨i,hi,(earB_iff l i).2 ?_⟩
 rw [← er,← ea,← eb]
 exact⟨he.pos,he.no⟩
theorem first_ear {l:List Pq}(h:Simp l)(ha:0<ar l):∃ i,i<l.length∧earB l i=true∧fE l l.length=i:=by
 obtain⟨i,hi,he⟩:=has_ear h ha
 have:∃ j,j≤i∧earB l j=true∧∀ k,k<j→earB l k=false:=by
  clear hi
  induction i using Nat.strongRecOn with
  |_ i ih =>
   by_cases hk:∃ k,k<i∧earB l k=true
   ·obtain⟨k,hk,hek⟩:=hk
    obtain⟨j,h1,h2,h3⟩:=ih k hk hek
    exact⟨j,by omega,h2,h3⟩
   ·exact⟨i,Nat.le_refl _,he,fun k hk'=>by
     cases hv:earB l k with
     |false=>rfl
     |true=>exact absurd ⟨k,hk',hv⟩ hk⟩
 obtain⟨j,hj,h1,h2⟩:=this
 exact⟨j,by omega,h1,fE_is (by omega) h1 h2⟩
theorem cut_step {l:List Pq}(h:Simp l)(ha:0<ar l)(h3:3<l.length){i:Nat}(hi:i<l.length)(he:earB l i=true) :
  Simp (delI l i)∧0<ar (delI l i)∧∀ f,anti f→fs f l=fs f (delI l i)+fs f (tl (triE l i)):=by
 obtain⟨c1,c2⟩:=(earB_iff l i).1 he
 obtain⟨t1,t2⟩:=sides_at (l:=l) (by omega) hi
 have e0:l=l.take i++at2 l i::l.drop (i+1):=by
  rw [at2_eq hi,← List.drop_eq_getElem_cons hi,List.take_append_drop]
 obtain⟨a,K,b,e1⟩:=two_split (L:=l.drop (i+1)++l.take i) (by rw [List.length_append,List.length_drop,List.length_take];omega)
 have hS:SameC l (at2 l i::a::(K++[b])):=by
  have:=SameC.rot (l.take i) (at2 l i::l.drop (i+1))
  rw [← e0,List.cons_append,e1] at this
  exact this
 have hR:=hS.simp h
 have hn:=hR.nodup
 have hb:prv l i=b:=(at_first hn ((hS.cl _).2 t1)).2.1 rfl
 have haa:nxt l i=a:=(at_first hn ((hS.cl _).2 t2)).1 rfl
 have hK:K≠[]:=fun g=>by
  have:=hS.len
  rw [g] at this
  simp at this
  omega
 rw [hb,haa] at c1 c2
 have haR:0<ar (at2 l i::a::(K++[b])):=by rw [hS.ar];exact ha
 obtain⟨d1,d2⟩:=hR.cutpos haR hK c1 fun y hy=>by
  have hyr:y≠at2 l i:=fun g=>(List.nodup_cons.1 hn).1 (by rw [← g];simp [hy])
  have hya:y≠a:=fun g=>(List.nodup_cons.1 (List.nodup_cons.1 hn).2).1 (by rw [← g];simp [hy])
  have hyb:y≠b:=fun g=>by
   have h3:=(List.nodup_cons.1 (List.nodup_cons.1 hn).2).2
   exact (List.nodup_append.1 h3).2.2 y hy b (by simp) g
  exact c2 y ((hS.mem y).1 (by simp [hy])) hyb hyr hya
 have hD:SameC (a::(K++[b])) (delI l i):=by
  have:=SameC.rot (l.drop (i+1)) (l.take i)
  rw [e1] at this
  exact this
 refine⟨hD.simp d1,by rw [hD.ar];exact d2,fun f hf=>?_⟩
 rw [hD.fs,← hS.fs,fs_ear hf,triE,tl,fs_three,hb,haa]
 simp only
 omega
def LS (f:Pq × Pq→Int):List Tg→Int
 |[]=>0
 |t::r=>fs f (tl t)+LS f r
theorem LS_app (f:Pq × Pq→Int):∀ (A B:List Tg),LS f (A++B)=LS f A+LS f B
 |[],B=>by simp [LS]
 |t::A,B=>by
  rw [List.cons_append,LS,LS,LS_app f A B]
  omega
theorem TS_LS (f:Pq × Pq→Int)(ts:List Tg):∀ n,n≤ts.length→TS f ts n=LS f (ts.take n)
 |0,_=>rfl
 |n+1,h=>by
  rw [TS,TS_LS f ts n (by omega),List.take_succ_eq_append_getElem (by omega),LS_app,atT_eq (by omega)]
  simp only [LS]
  omega
theorem okTg_of {a b c:Pq}(ha:rightS a=true)(hb:rightS b=true)(hc:rightS c=true)(h:0<crossI a b c):okTg (a,b,c)=true:=by
 have ht:turnS a b c=1:=by
  unfold turnS sgn
  rw [if_neg (by omega),if_pos h]
 unfold okTg
 simp only [ha,hb,hc,ht,Bool.and_self,decide_true]
theorem triL_ok:∀ (n:Nat) (rest:List Pq) (out:List Tg),rest.length=n→Simp rest→0<ar rest→rest.all rightS=true→∃ ts,triL n rest out=out++ts∧(∀ t∈ts,okTg t=true)∧ts.length+2=n∧∀ f,anti f→LS f ts=fs f rest:=fun n=>by
 induction n with
 |zero=>intro rest out hl hS;have:=hS.len;omega
 |succ n ih =>
  intro rest out hl hS ha hr
  have h3:=hS.len
  by_cases hc:3<rest.length
  ·obtain⟨i,hi,he,hf⟩:=first_ear hS ha
   obtain⟨c1,c2⟩:=(earB_iff rest i).1 he
   obtain⟨d1,d2,d3⟩:=cut_step hS ha hc hi he
   obtain⟨ts,e1,e2,e3,e4⟩:=ih (delI rest i) (out++[triE rest i]) (by rw [delI_len hi];omega) d1 d2 (delI_right hr i)
   refine⟨triE rest i::ts,?_,fun t ht=>?_,by rw [List.length_cons];omega,fun f hf'=>?_⟩
   ·rw [triL_step hc hl.symm hf,show n+1 - 1=n from rfl,e1,List.append_assoc]
    rfl
   ·rcases List.mem_cons.1 ht with rfl|ht
    ·unfold triE
     exact okTg_of (all_at hr (Nat.mod_lt _ (by omega))) (all_at hr hi) (all_at hr (Nat.mod_lt _ (by omega))) c1
    ·exact e2 t ht
   ·rw [LS,e4 f hf',d3 f hf']
    omega
  ·have hl3:rest.length=3:=by omega
   match rest,hl3,hl,hS,ha,hr with
   |[a,b,c],hl3,hl,hS,ha,hr =>
    refine⟨[(a,b,c)],?_,fun t ht=>?_,?_,fun f hf=>?_⟩
    ·rw [triL_end hl3 hl.symm]
     rfl
    ·rw [List.mem_singleton] at ht
     subst ht
     simp only [List.all_cons,List.all_nil,Bool.and_true,Bool.and_eq_true] at hr
     rw [ar_three] at ha
     have:crossI a b c=crossI c a b:=by unfold crossI;grind
     exact okTg_of hr.1 hr.2.1 hr.2.2 (by rw [this];exact ha)
    ·simp only [List.length_cons,List.length_nil] at hl ⊢
     omega
    ·simp [LS,tl]
theorem chS_none {s:Sd}:∀ {L:List (Sd × Int)},(∀ e∈L,e.1≠s)→chS (fun e=>if e=s then 1 else 0) L=0
 |[],_=>rfl
 |e::r,h=>by
  rw [chS,chS_none fun x hx=>h x (.tail _ hx),if_neg (h e (.head _))]
  omega
theorem chS_at {s:Sd}{n:Int}:∀ {L:List (Sd × Int)},(L.map (·.1)).Nodup→(s,n)∈L→chS (fun e=>if e=s then 1 else 0) L=n
 |[],_,h=>by cases h
 |e::r,hn,h=>by
  rw [List.map_cons,List.nodup_cons] at hn
  rw [chS]
  rcases List.mem_cons.1 h with rfl|h
  ·rw [if_pos rfl,chS_none fun x hx g=>hn.1 (by rw [← g];exact List.mem_map_of_mem (f:=(·.1)) hx)]
   omega
  ·have hne:e.1≠s:=fun g=>hn.1 (by rw [g];exact List.mem_map_of_mem (f:=(·.1)) h)
   rw [if_neg hne,chS_at hn.2 h]
   omega
theorem chS_both1 (s:Sd)(L:List (Sd × Int))(p q:Int × Int)(d:Int):chS (fun e=>if e=s then 1 else 0) (bothE L p q d)=chS (fun e=>if e=s then 1 else 0) L+d*ind s.1 s.2 (p,q):=by
 unfold bothE ind
 rw [chS_add,chS_add]
 have e1:((p,q)=s)=(p=s.1∧q=s.2):=propext ⟨fun h=>by rw [← h];exact⟨rfl,rfl⟩,fun h=>Prod.ext h.1 h.2⟩
 have e2:((q,p)=s)=(p=s.2∧q=s.1):=propext ⟨fun h=>by rw [← h];exact⟨rfl,rfl⟩,fun h=>Prod.ext h.2 h.1⟩
 simp only [e1,e2]
 rw [Int.mul_sub,Int.neg_mul]
 omega
theorem chS_mT1 (s:Sd)(ts:List Tg):∀ i,chS (fun e=>if e=s then 1 else 0) (mT ts i)=TS (ind s.1 s.2) ts i
 |0=>rfl
 |i+1=>by
  rw [mT,triM,chS_both1,chS_both1,chS_both1,chS_mT1 s ts i,TS,tl,fs_three]
  omega
theorem chS_mN1 (s:Sd)(M:List (Sd × Int))(N:List Pq):∀ i,chS (fun e=>if e=s then 1 else 0) (mN M N i)=chS (fun e=>if e=s then 1 else 0) M - ES (ind s.1 s.2) N i
 |0=>by rw [mN,ES];omega
 |i+1=>by
  rw [mN,chS_both1,chS_mN1 s M N i,ES,edgeS]
  omega
theorem tri_chk {l:List Pq}(h:polyE l=0):chkT l (triO l)=true:=by
 obtain⟨hg,hs⟩:=polyE_ok h
 have hl:=simp_of hg hs
 obtain⟨n1,n2,-⟩:=norR_simp hl
 have ha:0<ar (norR l):=by rw [n2];exact dirI_area hl
 have hr:=norR_right hg
 obtain⟨ts,e1,e2,e3,e4⟩:=triL_ok _ (norR l) [] rfl n1 ha hr
 have eO:triO l=ts:=by
  unfold triO triN
  rw [if_pos h,e1]
  rfl
 rw [eO]
 have hlen:=norR_len l
 have h200:=hg.2.1
 have hok:∀ i,i<ts.length→okTg (atT ts i)=true:=fun i hi=>e2 _ (by rw [atT_eq hi];exact List.getElem_mem hi)
 rw [chkT_yes ⟨h,by omega,hok⟩]
 unfold allZ
 rw [List.all_eq_true]
 rintro ⟨s,n⟩ hx
 have hMB:=mN_MB (mT_MB hok) hr (Nat.le_refl (norR l).length)
 have:=chS_at hMB.w.nodup hx
 rw [chS_mN1,chS_mT1,ES_fs _ n1.nodup,TS_LS _ _ _ (Nat.le_refl _),List.take_length,e4 _ (ind_anti _ _)] at this
 simp only [decide_eq_true_eq]
 omega
end Go.Aw
end

noncomputable section
namespace Go.Aw
set_option maxRecDepth 100000
def D25':Nat × XF:=(9,rfX elP elT S51)
theorem triO_len {l:List (Int × Int)}(h:polyE l=0):0<(triO l).length∧(triO l).length≤l.length:=by
 obtain⟨hg,hs⟩:=polyE_ok h
 have hl:=simp_of hg hs
 obtain⟨n1,n2,-⟩:=norR_simp hl
 have h3:=n1.len
 have hlen:=norR_len l
 obtain⟨ts,e1,e2,e3,e4⟩:=triL_ok _ (norR l) [] rfl n1 (by rw [n2];exact dirI_area hl) (norR_right hg)
 have eO:triO l=ts:=by
  unfold triO triN
  rw [if_pos h,e1]
  rfl
 rw [eO]
 omega
def e3w (n m c1:Nat)(s j:Int):List (Nat × Value):=[(0,.slice (some ⟨0,0,none⟩) n c1),(3,.pointer (some ⟨1,0,none⟩)),(5,.slice (some ⟨2,0,none⟩) m m),(7,iv s),(36,.slice (some ⟨2,0,none⟩) m m),(37,iv m),(38,iv j)]
def h3w (l:List (Int × Int))(ts:List Tg)(p:Int × Int):Heap:=[(0,.cells false true 2 (flat elP.fl l)),(1,.cells true false 1 [iv p.1,iv p.2]),(2,.cells true false 6 (flat elT.fl ts))]
attribute [local irreducible] chkT Area2V WhV cIn cIs aT triO polyE in
theorem law3 (l:List (Int × Int))(px py:Int)(c1:Nat):body [X19,D25',X32,X34,D35,X17,D14,X40] 3 [.slice (some ⟨0,0,none⟩) l.length c1,ptv (px,py)] [(0,.cells false true 2 (flat elP.fl l))] 1 (fun u _ _=>u=.bool true):=by
 by_cases hl:l.length≤40
 ·have hd2:decide (l.length≤1000000000)=true:=decide_eq_true (by omega)
  by_cases hE:polyE l=0
  ·obtain⟨ts,hO⟩:∃ ts,triO l=ts:=⟨_,rfl⟩
   obtain⟨t0,t1⟩:=triO_len hE
   have hk:=tri_chk hE
   rw [hO] at t0 t1 hk
   have hc:=chkT_cov hk
   have hd1:(decide (l.length≤1000000000)&&decide (ts.length≤1000000000))=true:=by simp;omega
   rcases ts with _|⟨ta,tr⟩
   ·simp at t0
   ·repeat' first
     |(exfalso
       simp only [hd2] at g
       cases g
       done)
     |(exfalso
       simp only [cA_lt,cA_num,cA_eqB,beq_iff_eq,beq_eq_false_iff_ne,ne_eq,decide_eq_true_eq,decide_eq_false_iff_not] at g
       omega)
     |(exfalso;simp [hE,cA_notB,cA_eq] at g;done)
     |(((conv=>whnf);refine bm (fun g=>?_) (fun g=>?_)))
     |((conv=>whnf)
       show ∃ x:List (Int × Int),_
       refine Exists.intro l (And.intro ⟨rfl,_,_,_,_,rfl,by rw [List.drop_zero,List.take_length]⟩ ?_))
     |((conv=>whnf)
       rw [hO])
    all_goals (conv=>whnf)
    generalize hts:ta::tr=ts at *
    refine⟨fun m e h nx=>∃ (i:Nat) (j s:Int),j=i∧i≤ts.length∧m=ts.length - i∧s=aT ts i∧e=e3w l.length ts.length c1 s j∧h=h3w l ts (px,py)∧nx=3,⟨ts.length,?_⟩,?_⟩
    ·refine Into_id (e0:=e3w l.length ts.length c1 0 0) (h0:=h3w l ts (px,py)) (n0:=3) ⟨0,0,0,rfl,Nat.zero_le _,rfl,by unfold aT;rfl,rfl,rfl,rfl⟩ ?_ ?_ (by decide)
     ·unfold e3w
      ((repeat' refine iE rfl rfl ?_);exact iN)
     ·unfold h3w
      ((repeat'(first|refine iF rfl rfl ?_|refine iJ rfl rfl rfl rfl ?_));exact iN)
    ·rintro m e h nx ⟨i,j,s,hj,hi,rfl,hs,rfl,rfl,rfl⟩
     unfold e3w h3w
     ((conv=>whnf);refine bm (fun g1=>?_) (fun g1=>?_))
     ·have hlt:i<ts.length:=by simp only [cA_lt,cA_num,decide_eq_true_eq] at g1;omega
      have hb:=aT_B (n:=i) (ts:=ts) fun k hk=>hc.ok k (by omega)
      rw [← hs] at hb
      obtain⟨a1,a2,a3⟩:=area3 (hc.ok i hlt)
      have hn:aT ts (i+1)=s+Area2V [(atT ts i).1,(atT ts i).2.1,(atT ts i).2.2]:=by rw [aT,← hs,a1]
      rw [← a1] at a2 a3
      generalize hA:(atT ts i).1=PA at *
      generalize hB:(atT ts i).2.1=PB at *
      generalize hC:(atT ts i).2.2=PC at *
      repeat' first
       |(exfalso
         simp only [cA_add,cA_sub,cA_rem,cA_fits,cA_lt,cA_le,cA_eq,cA_notB,cA_andB,cA_num,fitsK,Bool.not_eq_false',Bool.not_eq_true',Bool.and_eq_false_iff,Bool.and_eq_true,decide_eq_true_eq,decide_eq_false_iff_not] at g
         omega)
       |(exfalso
         have hg:decide ([PA,PB,PC].length≤1000000000)=false:=g
         simp at hg
         done)
       |(((conv=>whnf);refine bm (fun g=>?_) (fun g=>?_)))
       |((conv=>whnf)
         refine boL (getT ts hlt ?_) ?_
         ·simp [cfgS,std];omega
         rw [hA,hB,hC])
       |((conv=>whnf)
         show ∃ x:List (Int × Int),_
         refine Exists.intro [PA,PB,PC] (And.intro ⟨rfl,_,_,_,_,rfl,rfl⟩ ?_))
      all_goals (conv=>whnf)
      refine⟨ts.length - (i+1),by omega,?_⟩
      refine Into_id (e0:=e3w l.length ts.length c1 (s+Area2V [PA,PB,PC]) (j+1)) (h0:=h3w l ts (px,py)) (n0:=3) ⟨i+1,j+1,_,by omega,by omega,rfl,hn.symm,rfl,rfl,rfl⟩ ?_ ?_ (by decide)
      ·unfold e3w
       ((repeat' refine iE rfl rfl ?_);exact iN)
      ·unfold h3w
       ((repeat'(first|refine iF rfl rfl ?_|refine iJ rfl rfl rfl rfl ?_));exact iN)
     ·have hge:i=ts.length:=by simp only [cA_lt,cA_num,decide_eq_false_iff_not] at g1;omega
      subst hge
      have hA2:Area2V l=areaI l l.length:=by unfold Area2V;rw [if_pos ⟨by omega,hc.good.2.2.1⟩]
      have har:=cov_area hc
      rw [← hs,← hA2] at har
      have hab:=aT_B (n:=ts.length) (ts:=ts) hc.ok
      rw [← hs] at hab
      have hcn:=fun hp=>cov_counts hc (p:=(px,py)) hp
      have hbI:=cIn_B ts (px,py) ts.length
      have hbS:=cIs_B ts (px,py) ts.length
      have hd2:decide (l.length≤1000000000)=true:=decide_eq_true (by omega)
      have hd3:decide (ts.length≤1000000)=true:=decide_eq_true (by omega)
      have hmx:s=mx (Area2V l) (0 - Area2V l):=by unfold mx;split at har <;> split <;> omega
      have hRb : -300000000000≤Area2V l∧Area2V l≤300000000000:=by split at har <;> omega
      cases hp:rightS (px,py)
      all_goals repeat' first
       |(exfalso
         simp only [hd2,hd3] at g
         cases g
         done)
       |(exfalso;simp [hp,cA_notB,cA_eq] at g;done)
       |(exfalso
         simp only [hd1] at g
         cases g
         done)
       |(exfalso;simp [hk,cA_notB] at g;done)
       |(exfalso
         simp only [cA_notB,cA_eq,cA_max,cA_neg,cA_eqB,hmx,decide_true,Bool.not_true,beq_self_eq_true,Bool.true_eq_false] at g
         done)
       |(((conv=>whnf);refine bm (fun g=>?_) (fun g=>?_)))
       |((conv=>whnf)
         show ∃ (x:List (Int × Int)) (y:List Tg),_
         refine Exists.intro l (Exists.intro ts (And.intro ⟨rfl,_,_,_,_,rfl,by rw [List.drop_zero,List.take_length]⟩ (And.intro ⟨rfl,_,_,_,_,rfl,by rw [List.drop_zero,List.take_length]⟩ ?_))))
       |((conv=>whnf)
         show ∃ x:List (Int × Int),_
         refine Exists.intro l (And.intro ⟨rfl,_,_,_,_,rfl,by rw [List.drop_zero,List.take_length]⟩ ?_))
       |((conv=>whnf)
         show ∃ x:List Tg,_
         refine Exists.intro ts (And.intro ⟨rfl,_,_,_,_,rfl,by rw [List.drop_zero,List.take_length]⟩ ?_))
      all_goals (conv=>whnf)
      all_goals first
       |(exfalso
         simp only [cA_fits,cA_neg,fitsK,Bool.and_eq_false_iff,decide_eq_false_iff_not] at g
         omega)
       |(exfalso
         simp only [cA_notB,cA_eq,cA_max,cA_neg,Bool.not_eq_true',decide_eq_false_iff_not] at g
         exact g hmx)
       |(exfalso;simp [hp,cA_notB,cA_eq] at g;done)
       |(exfalso
         rename_i g1 _ _
         simp [hp,cA_notB,cA_eq] at g1
         done)
       |(exfalso
         obtain⟨h1,h2⟩:=hcn hp
         simp only [cA_eqB,cA_le,pEta,beq_eq_false_iff_ne,ne_eq,decide_eq_true_eq] at g
         exact g h1)
       |(obtain⟨h1,h2⟩:=hcn hp
         show Value.bool (cfgS.A.eqB (cfgS.A.lt 0 (cIn ts (px,py) ts.length)) (cfgS.A.notB (cfgS.A.eq (WhV l (px,py)) 0)))=.bool true
         simp only [cA_eqB,cA_lt,cA_notB,cA_eq]
         by_cases hw:WhV l (px,py)=0
         ·have:¬ 0<cIn ts (px,py) ts.length:=fun g=>h2.1 g hw
          simp [hw,this]
         ·have:0<cIn ts (px,py) ts.length:=h2.2 hw
          simp [hw,this])
       |trace_state
  ·have hO:triO l=[]:=by unfold triO;rw [if_neg hE]
   repeat' first
    |(exfalso
      simp only [hd2] at g
      cases g
      done)
    |(exfalso
      simp only [cA_lt,cA_num,cA_eqB,beq_iff_eq,beq_eq_false_iff_ne,ne_eq,decide_eq_true_eq,decide_eq_false_iff_not] at g
      omega)
    |(exfalso;simp [hE,cA_notB,cA_eq,cA_eqB] at g;done)
    |(((conv=>whnf);refine bm (fun g=>?_) (fun g=>?_)))
    |((conv=>whnf)
      show ∃ x:List (Int × Int),_
      refine Exists.intro l (And.intro ⟨rfl,_,_,_,_,rfl,by rw [List.drop_zero,List.take_length]⟩ ?_))
    |((conv=>whnf)
      rw [hO])
   all_goals (conv=>whnf)
   all_goals rfl
 ·repeat' first
   |(exfalso
     simp only [cA_lt,cA_num,cA_eqB,beq_iff_eq,beq_eq_false_iff_ne,ne_eq,decide_eq_true_eq,decide_eq_false_iff_not] at *
     omega)
   |(((conv=>whnf);refine bm (fun g=>?_) (fun g=>?_)))
  all_goals (conv=>whnf)
  all_goals trace_state
end Go.Aw
end

noncomputable section
namespace Go.Proofs.YtoekkmbbbllogaaGreat
open Go.ChangeShapes Go.WideShapes Go.ChangeAt Go.RowKit Go.Aw Go.Joins
theorem flat_idx {α:Type}(E:El α)(l:List α)(i j:Nat)(hi:i<l.length)(hj:j<E.sz):(flat E.fl l)[i*E.sz+j]? = (E.fl l[i])[j]? := by
 have h1:=flat_at E l i hi
 rw [← h1,List.getElem?_take_of_lt hj,List.getElem?_drop]
theorem law_calls_l {α:Type}(E:El α){f:Nat}{xl:List (Nat × XF)}(hx:XLOK xl){l:List α}{r:List Value}{c:Nat}(hr:allGA r=true)
  (hb:body xl f (.slice (some ⟨0,0,none⟩) l.length c::r) [(0,.cells false true E.sz (flat E.fl l))] 1 (fun u _ _=>u=.bool true)) {W:World} {v:Value} {loc:Go.Aw.Loc}
  (hv:v=tr (fun _=>loc) (.slice (some ⟨0,0,none⟩) l.length c)) (hn:loc.isAt=false→l.length=0∧c=0) (ho:ORel (fun _=>loc) W.heap.size W (.cells false true E.sz (flat E.fl l)) loc) :
  Calls Tryz.prog f (v::r).toArray W (fun e W'=>e=.returned (.bool true)∧Below W.heap.size W W'):=by
 obtain⟨_,h⟩:=body_calls hx f _ _ 1 _ hb (fun _=>loc) W.heap.size W ⟨fun k o hk=>by
  rw [look_cons] at hk
  split at hk
  ·injection hk with hk;subst hk;exact ho
  ·exact noLook hk,fun k k' o o' hk hk' hne ha=>by
  rw [look_cons] at hk hk'
  split at hk
  ·rename_i hb1
   split at hk'
   ·rename_i hb2;exact absurd ((beq_true hb1).symm.trans (beq_true hb2)) hne
   ·exact noLook hk'
  ·exact noLook hk,fun k o hk=>by
  rw [look_cons] at hk
  split at hk
  ·rename_i hb;rw [← beq_true hb];exact Nat.one_pos
  ·exact noLook hk,Nat.le_refl _,fun k o hk=>by
  rw [look_cons] at hk
  split at hk
  ·injection hk with hk;subst hk;exact fun v hv=>scS_g (allG_mem (flat_g E l) hv)
  ·exact noLook hk⟩ (fun u hu=>by
  cases hu with
  |head=>exact⟨Nat.one_pos,hn⟩
  |tail _ hm=>exact scT_g (allGA_mem hr hm))
 have he:((Value.slice (some ⟨0,0,none⟩) l.length c::r).map (tr (fun _=>loc))).toArray=(v::r).toArray:=by
  congr 1
  rw [List.map_cons,← hv]
  congr 1
  conv=>rhs;rw [← List.map_id r]
  exact List.map_congr_left fun v hv=>tr_g (allGA_mem hr hv)
 rw [he] at h
 refine callsIn_wide.1 (CallsIn.mono h fun e W' hr=>?_)
 cases e with
 |returned u =>
  obtain⟨v,h',nx',ι',rfl,_,_,hb2,_,_,rfl⟩:=hr
  exact⟨rfl,hb2.kit⟩
 |_=>exact hr.elim
section
variable {H:Type}{enc:TypeId × Value→H}{W:World}{held:Bool}
set_option maxRecDepth 100000 in
theorem open_list {α:Type}(E:El α)(hsz:0<E.sz){t e:TypeId}(ht:Tryz.prog.underlying t=some (.slice e))(hC:Tryz.prog.cellsOf e=E.sz)
  (hcells:∀ {fuel:Nat} {cs:List Value} {x:DataW H × List MemPlace},DataW.trod enc Tryz.prog W 0 (fun _=>true) held fuel e cs=some x→∃ a,cs=E.fl a)
  {a0:Option Addr} {n0 c0:Nat} {d:DataW H} {p:List MemPlace} (h:DataW.Trod enc Tryz.prog W 0 (fun _=>true) held t (.slice a0 n0 c0) d p) :
  ∃ (l:List α) (c:Nat) (loc:Go.Aw.Loc),.slice a0 n0 c0=tr (fun _=>loc) (.slice (some ⟨0,0,none⟩) l.length c)∧(loc.isAt=false→l.length=0∧c=0)∧ORel (fun _=>loc) W.heap.size W (.cells false true E.sz (flat E.fl l)) loc:=by
 obtain⟨fuel,hf⟩:=h
 rcases Go.Deep.open_slice ht hf with ⟨hcs,_⟩|⟨a,len,cap,m,n,D,Pl,hcs,_,hl,_,hm,_,hi⟩
 ·simp [Value.cells] at hcs
  obtain⟨rfl,rfl,rfl⟩:=hcs
  exact⟨[],0,.nil none,rfl,fun _=>⟨rfl,rfl⟩,rfl,fun h=>h.elim (fun h=>absurd h E.pos) (fun h=>by cases h)⟩
 ·simp [Value.cells] at hcs
  obtain⟨rfl,rfl,rfl⟩:=hcs
  simp only [if_true] at hm
  rw [hC,hm] at hi
  by_cases h0:c0=0
  ·subst h0
   have:n0=0:=by omega
   subst this
   exact⟨[],0,.nil (some a),rfl,fun _=>⟨rfl,rfl⟩,rfl,fun h=>h.elim (fun h=>absurd h E.pos) (fun h=>by cases h)⟩
  ·have hp:∀ i,i<c0→∃ q:α,∀ j,j<E.sz→W.cell? ((a.add (i*E.sz)).add j)=(E.fl q)[j]? := by
    intro i him
    obtain⟨cs',hc,ht'⟩:=hi i him
    obtain⟨q,rfl⟩:=hcells ht'
    obtain⟨_,_,hat⟩:=World.cells?_some hc
    exact⟨q,hat⟩
   obtain⟨q0,hq0⟩:=hp 0 (by omega)
   have hall:∀ i,∃ q:α,i<c0→∀ j,j<E.sz→W.cell? ((a.add (i*E.sz)).add j)=(E.fl q)[j]? := fun i=>by
    by_cases him:i<c0
    ·obtain⟨q,hq⟩:=hp i him
     exact⟨q,fun _=>hq⟩
    ·exact⟨q0,fun h=>absurd h him⟩
   obtain⟨F,hF⟩:=Classical.axiomOfChoice hall
   have hsome:∃ u,W.cell? a=some u:=by
    have:=hq0 0 hsz
    simp only [Nat.zero_mul,Addr.add,if_true] at this
    have hlen:=E.len q0
    rw [this,List.getElem?_eq_getElem (by omega)]
    exact⟨_,rfl⟩
   obtain⟨u0,hu0⟩:=hsome
   obtain⟨b,off,spot⟩:=a
   have hspot:spot=none:=World.cell?_spot hu0
   subst hspot
   have hbW:b<W.heap.size:=by
    unfold World.cell? at hu0
    cases hb:W.heap[b]? with
    |none=>simp [hb] at hu0
    |some o=>exact (Array.getElem?_eq_some_iff.1 hb).1
   refine⟨(List.range n0).map F,c0,.lay b off 0,?_,(fun h=>by cases h),hbW,fun _=>flat_g E _,fun i v hv=>?_⟩
   ·simp [tr,trA,trS,trP]
   ·have hlt:=(List.getElem?_eq_some_iff.1 hv).1
    rw [flat_len] at hlt
    have hi1:i / E.sz<((List.range n0).map F).length:=Nat.div_lt_of_lt_mul (by rw [Nat.mul_comm];exact hlt)
    have hj1:i % E.sz<E.sz:=Nat.mod_lt _ hsz
    have hdm:i / E.sz*E.sz+i % E.sz=i:=Nat.div_add_mod' _ _
    have hfi:=flat_idx E ((List.range n0).map F) (i / E.sz) (i % E.sz) hi1 hj1
    rw [hdm,hv] at hfi
    simp only [List.length_map,List.length_range] at hi1
    rw [show ((List.range n0).map F)[i / E.sz]=F (i / E.sz) by simp] at hfi
    have:=hF (i / E.sz) (by omega) (i % E.sz) hj1
    rw [← hfi] at this
    rw [trS_g (allG_mem (E.gr _) (List.mem_of_getElem? hfi.symm)),← this]
    congr 1
    rw [Addr.add_lit,Addr.add_lit]
    simp only [Addr.mk.injEq,and_true,true_and]
    omega
end
end Go.Proofs.YtoekkmbbbllogaaGreat
end

noncomputable section
namespace Go.Proofs.YtoekkmbbbllogaaGreat
open Go.ChangeShapes Go.WideShapes Go.ChangeAt Go.RowKit Go.Aw Go.Joins
theorem pt_el {H:Type}{enc:TypeId × Value→H}{W:World}{held:Bool}{fuel:Nat}{cs:List Value}{x:DataW H × List MemPlace}(h:DataW.trod enc Tryz.prog W 0 (fun _=>true) held fuel 24 cs=some x):∃ a,cs=elP.fl a:=by
 obtain⟨a,b,e⟩:=pt_cells h
 exact⟨(a,b),e⟩
set_option maxRecDepth 100000 in
theorem areas_lifted (os:Os)(started:os.Started)(H:Type)(enc:TypeId × Value→H) :
  ReturnsInHanded {} Tryz.checked os 3 .any (Rows.planeAreasSpec.pre6 enc Tryz.prog Tryz.f3 Rows.planeAreasRow.domain false) (Rows.planeAreasSpec.post enc Tryz.prog Tryz.f3 false true false false):=by
 refine returnsInHanded_of_change (C:=Tryz.checked) Tryz.own started (by kernel_rfl) Tryz.func3
  (ChangeSpec.witness6 (enc:=enc) (C:=Tryz.checked) false ⟨#[],#[.slice none 0 0,.agg #[.int .i64 0,.int .i64 0]],[]⟩ 8 (by kernel_rfl) (by kernel_rfl) (by kernel_rfl) (by kernel_rfl)) ?_
 intro W base args ds gs before hval0 hW hcnd _
 have hval:∀ (j:Nat) t v,Tryz.f3.params[j]? = some t→args[j]? = some v→Value.okWide Tryz.prog W .any base t v:=hval0
 have hW':=hW
 obtain⟨p,q,hA0,hV,rfl,hfz,hnd⟩:=hW
 have hA:DataW.TrodAll enc Tryz.prog W 0 (fun _=>true) true Tryz.f3.params.toList args.toList ds p:=hA0
 rw [Tryz.params3] at hA hval
 obtain⟨v0,v1,d0,d1,p0,p1,rfl,rfl,rfl,h0,h1⟩:=trodAll_two hA
 obtain⟨rfl,rfl⟩:=trodVars_none hV
 obtain⟨a0,len,cap,rfl⟩:=okWide_slice Tryz.underlying22 (hval 0 22 v0 rfl rfl)
 obtain⟨l,c,loc,e1,e2,e3⟩:=open_list elP (by decide) Tryz.underlying22 Tryz.cells24 pt_el h0
 obtain⟨a,rfl⟩:=open_pt (hval 1 24 v1 rfl rfl) h1
 obtain⟨ax,ay⟩:=a
 clear hA0 hval0
 simp only [List.append_nil] at hW'
 have hlt:∀ x∈p0++p1,x.block<W.heap.size:=fun x hx=>by simpa using hW'.lt x hx
 refine (law_calls_l elP (f:=3) (r:=[ptv (ax,ay)]) (.cons x19 (.cons d25 (.cons x32 (.cons x34 (.cons d35 (.cons x17 (.cons d14 (.cons x40 .nil)))))))) rfl (law3 l ax ay c) e1 e2 e3).mono fun e W' ⟨he,hb⟩=>?_
 subst he
 refine⟨_,rfl,_,_,_,[],p0++p1,[],hW',trodAll_mk1 (shutBool true),?_,rfl,hb.frame _,fun h=>by cases h⟩
 exact trodAll_mk2 (Below.trod Tryz.laidOut (by kernel_rfl) (of_decide_eq_true (by kernel_rfl)) h0 hb (fun x hx=>hlt x (List.mem_append.2 (.inl hx)))) (Below.trod Tryz.laidOut (by kernel_rfl) (of_decide_eq_true (by kernel_rfl)) h1 hb (fun x hx=>hlt x (List.mem_append.2 (.inr hx))))
theorem areas_holds:Rows.PlaneAreasSaid :=
 OpenClaim.holds_of_wide 3 Tryz.f3 rfl rfl rfl rfl rfl rfl rfl ⟨rfl,rfl,rfl,rfl,rfl⟩ rfl rfl rfl rfl rfl (by kernel_rfl) Tryz.func3 (by kernel_rfl)
  (of_decide_eq_true (by kernel_rfl)) (by unfold Func.isWrapper;first|(rw [if_pos (by decide +kernel)];kernel_rfl)|(rw [if_neg (by decide +kernel)];exact⟨rfl,rfl⟩))
  (fun os started H enc _=>areas_lifted os started H enc)
#print axioms areas_holds
end Go.Proofs.YtoekkmbbbllogaaGreat
end
