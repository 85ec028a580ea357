/-
  Parts of the proof, put together. No condition.
-/
import Derived.Test.YtjahkcbdecgbhaaGreatQBh
set_option linter.unusedSimpArgs false
set_option linter.unusedVariables false
noncomputable section
namespace Go.Aw
set_option maxRecDepth 100000
set_option maxHeartbeats 2000000
theorem Into_kq {b n0 nx:Nat}{I:KS}{e0 e:List (Nat × Value)}{P W h:Heap}(L:List (Nat × Nat))(hI:I e0 (P++W) n0)(he:∀ p∈e0,look e p.1=some (ren (rn L) p.2)∧nmT n0 p.2)(hW:∀ k o,look W k=some o→k<b∧ObjRen id b o o)(hk:∀ k o,look W k=some o→look h k=some o)
  (hP:∀ p∈P,((b≤p.1∧p.1<n0∧b≤rn L p.1)∨p.1<b)∧∃ o',look h (rn L p.1)=some o'∧ObjRen (rn L) n0 p.2 o') (hi:∀ k∈P.map Prod.fst,∀ k'∈P.map Prod.fst,rn L k=rn L k'→k=k') (hL:∀ p∈L,b≤p.1) (hb:b≤n0):Into b I e h nx:=by
 have hfix:∀ k,k<b→rn L k=k:=fun k hk=>by
  unfold rn
  split
  ·rename_i q hq
   have:=hL _ (look_mem hq)
   simp only at this
   omega
  ·rfl
 refine⟨e0,P++W,n0,rn L,hI,fun t v hv=>he (t,v) (look_mem hv),fun k o hk'=>?_,fun k k' o o' h1 h2 e=>?_,hfix,hb⟩
 ·rcases look_appL hk' with hm|hm
  ·obtain⟨a1,a2⟩:=hP _ hm
   simp only at a1
   exact⟨by omega,a2⟩
  ·obtain⟨a1,a2⟩:=hW k o hm
   exact⟨by omega,o,by rw [hfix k a1];exact hk k o hm,ObjRen_low hfix hb a2⟩
 ·rcases look_appL h1 with m1|m1 <;> rcases look_appL h2 with m2|m2
  ·exact hi k (List.mem_map.2 ⟨_,m1,rfl⟩) k' (List.mem_map.2 ⟨_,m2,rfl⟩) e
  ·have:=(hP _ m1).1
   have b2:=(hW _ _ m2).1
   simp only at this
   rw [hfix k' b2] at e
   rcases this with this|this
   ·omega
   ·rw [hfix k this] at e;exact e
  ·have:=(hP _ m2).1
   have b2:=(hW _ _ m1).1
   simp only at this
   rw [hfix k b2] at e
   rcases this with this|this
   ·omega
   ·rw [hfix k' this] at e;exact e
  ·rwa [hfix k (hW _ _ m1).1,hfix k' (hW _ _ m2).1] at e
structure Nst where
 face:List Int
 seen:List Bool
 many:Int
 out:Int
 flat:Bool
def setT (s:List Bool)(w:List Int):Nat→List Bool
 |0=>s
 |i+1=>(setT s w i).set (atI w i).toNat true
theorem setT_len (s:List Bool)(w:List Int):∀ i,(setT s w i).length=s.length
 |0=>rfl
 |i+1=>by unfold setT;rw [List.length_set];exact setT_len s w i
def nmStep (l:List Pt)(D:List Dt)(ls:List (List Int))(s:Nst)(d:Nat):Nst :=
 if atB s.seen d=true then s else
  let w:=wkD D ls d
  let a:=arI l D w w.length
  let fc:=if 0<a then s.many+1 else 0
  ⟨setF s.face w fc w.length,setT s.seen w w.length,if 0<a then s.many+1 else s.many,if 0<a then s.out else if a<0 then s.out+1 else s.out,if 0<a then s.flat else if a<0 then s.flat else true⟩
def nmAll (l:List Pt)(D:List Dt)(ls:List (List Int)):Nat→Nst
 |0=>⟨List.replicate D.length 0,List.replicate D.length false,0,0,false⟩
 |d+1=>nmStep l D ls (nmAll l D ls d) d
def nmD (l:List Pt)(D:List Dt)(ls:List (List Int)):Nst:=nmAll l D ls D.length
def nmOk (s:Nst):Bool:=decide (s.out=1)&&!s.flat
theorem nmAll_inv (l:List Pt)(D:List Dt)(ls:List (List Int)):∀ d,(nmAll l D ls d).face.length=D.length∧(nmAll l D ls d).seen.length=D.length∧0≤(nmAll l D ls d).many∧(nmAll l D ls d).many≤d∧0≤(nmAll l D ls d).out∧(nmAll l D ls d).out≤d
 |0=>by unfold nmAll;simp
 |d+1=>by
  obtain⟨h1,h2,h3,h4,h5,h6⟩:=nmAll_inv l D ls d
  unfold nmAll nmStep
  split
  ·refine⟨h1,h2,h3,?_,h5,?_⟩ <;> omega
  ·simp only [setF_len,setT_len]
   refine⟨h1,h2,?_,?_,?_,?_⟩
   ·split <;> omega
   ·split <;> omega
   ·split
    ·omega
    ·split <;> omega
   ·split
    ·omega
    ·split <;> omega
def wksB (D:List Dt)(ls:List (List Int)):Bool:=(List.range D.length).all fun d=>decide (itN D ls d (perD D ls d)=d)
structure WbR (R:Heap) (k0 kd kt:Nat) (nm:Nat→Nat) (l:List Pt) (D:List Dt) (ls:List (List Int)):Prop where
 pt:∃ wr g sz cs,look R k0=some (.cells wr g sz cs)∧cs.take (flat elP.fl l).length=flat elP.fl l
 da:∃ wr g sz cs,look R kd=some (.cells wr g sz cs)∧cs.take (flat elD.fl D).length=flat elD.fl D
 tb:∃ wr g sz,look R kt=some (.cells wr g sz ((List.range ls.length).map fun i=>tV (nm i) (atL ls i)))
 li:∀ i,i<ls.length→(atL ls i).length≠0→∃ wr g sz cs,look R (nm i)=some (.cells wr g sz cs)∧cs.take (flat elI.fl (atL ls i)).length=flat elI.fl (atL ls i)
theorem WbR.at {R h:Heap}{p k0 k1 kd kt kf:Nat}{nm:Nat→Nat}{l:List Pt}{D:List Dt}{ls:List (List Int)}{nE c1 c2:Nat}{n:Int}{fo:Option (Nat × Nat)}(hw:WbR R k0 kd kt nm l D ls)(hx:∀ k o,look R k=some o→look h k=some o){wr g:Bool}{sz:Nat}
  (hs:look h p=some (.cells wr g sz (wcC k0 k1 kd kt kf l.length nE D.length ls.length c1 c2 n fo))):WebAt h p k0 k1 kd kt kf nm l D ls nE c1 c2 n fo:=by
 obtain⟨⟨w1,g1,s1,x1,a1,b1⟩,⟨w2,g2,s2,x2,a2,b2⟩,⟨w3,g3,s3,a3⟩,h4⟩:=hw
 refine⟨⟨_,_,_,hs⟩,⟨_,_,_,_,hx _ _ a1,b1⟩,⟨_,_,_,_,hx _ _ a2,b2⟩,⟨_,_,_,hx _ _ a3⟩,fun i hi h0=>?_⟩
 obtain⟨w5,g5,s5,x5,a5,b5⟩:=h4 i hi h0
 exact⟨_,_,_,_,hx _ _ a5,b5⟩
structure A155 where
 R:Heap
 k0:Nat
 k1:Nat
 kd:Nat
 kt:Nat
 nm:Nat→Nat
 l:List Pt
 D:List Dt
 ls:List (List Int)
 nE:Nat
 c1:Nat
 c2:Nat
 n:Int
def ok155 (a:A155):Prop:=webB a.l a.D a.ls=true∧wksB a.D a.ls=true∧HOK a.R 2003∧look a.R 7=none∧WbR a.R a.k0 a.kd a.kt a.nm a.l a.D a.ls∧(a.k0<2003∧a.k1<2003∧a.kd<2003∧a.kt<2003)
def stH (a:A155)(fv:Value):AObj:=.cells true false 1 [.slice (some ⟨a.k0,0,none⟩) a.l.length a.c1,.slice (some ⟨a.k1,0,none⟩) a.nE a.c2,iv a.n,.slice (some ⟨a.kd,0,none⟩) a.D.length a.D.length,.slice (some ⟨a.kt,0,none⟩) a.ls.length a.ls.length,fv]
def HF155 (a:A155):Heap:=(7,stH a (.slice (some ⟨2003,0,none⟩) a.D.length a.D.length))::(2003,.cells true false 1 (flat elI.fl (nmD a.l a.D a.ls).face))::a.R
def X155:XF:=dX ok155 (fun _=>[.pointer (some ⟨7,0,none⟩)]) (fun a=>(7,stH a nilS)::a.R) (fun _=>2003) (fun a=>.tuple #[iv (nmD a.l a.D a.ls).many,.bool (nmOk (nmD a.l a.D a.ls))])
 HF155 (fun _=>2004)
def e155 (N:Nat)(s:Nst)(j:Int):List (Nat × Value):=[(0,.pointer (some ⟨7,0,none⟩)),(4,.slice (some ⟨2004,0,none⟩) N N),(5,iv s.many),(6,iv s.out),(7,.bool s.flat),(33,iv N),(34,iv j)]
def h155 (a:A155)(s:Nst):Heap:=[(7,stH a (.slice (some ⟨2003,0,none⟩) a.D.length a.D.length)),(2003,.cells true false 1 (flat elI.fl s.face)),(2004,.cells true false 1 (flat elB.fl s.seen))]
def e155c (N:Nat)(s:Nst)(j fc:Int)(n:Nat)(x:Int):List (Nat × Value):=(11,iv fc)::(58,.slice (some ⟨2005,0,none⟩) n n)::(59,iv n)::(60,iv x)::e155 N s j
theorem put_setT {s:List Bool}{w:List Int}{t o:Nat}(ho:o=(atI w t).toNat*1)(hi:(atI w t).toNat<s.length):putN (flat elB.fl (setT s w t)) o [.bool true]=flat elB.fl (setT s w (t+1)):=by
 rw [ho,put_bool _ _ _ (by rw [setT_len];exact hi)]
 rfl
theorem h155_P {a:A155}(h6:a.k0<2003∧a.k1<2003∧a.kd<2003∧a.kt<2003){h:Heap}{s:Nst}{n0:Nat}(hn:2005≤n0)(x1:look h 7=some (stH a (.slice (some ⟨2003,0,none⟩) a.D.length a.D.length)))(x2:look h 2003=some (.cells true false 1 (flat elI.fl s.face)))(x3:look h 2004=some (.cells true false 1 (flat elB.fl s.seen))) :
  ∀ p∈h155 a s,((2003≤p.1∧p.1<n0∧2003≤rn [] p.1)∨p.1<2003)∧∃ o',look h (rn [] p.1)=some o'∧ObjRen (rn []) n0 p.2 o':=by
 have hsl:∀ {q a b:Nat},q<2004→nmS n0 (.slice (some ⟨q,0,none⟩) a b):=fun {q a b} hq=>⟨show q<n0 by omega,fun h=>by cases h⟩
 unfold h155
 refine List.forall_mem_cons.2 ⟨⟨.inr (by omega),_,x1,rfl,rfl,rfl,rfl,?_⟩,List.forall_mem_cons.2 ⟨⟨.inl ⟨Nat.le_refl _,by show 2003<n0;omega,Nat.le_refl _⟩,_,x2,ObjRen_g (flat_g _ _)⟩,List.forall_mem_cons.2 ⟨⟨.inl ⟨by omega,by show 2004<n0;omega,by show 2003≤2004;omega⟩,_,x3,ObjRen_g (flat_g _ _)⟩,fun _ h=>(by cases h)⟩⟩⟩
 exact List.forall_mem_cons.2 ⟨hsl (by omega),List.forall_mem_cons.2 ⟨hsl (by omega),List.forall_mem_cons.2 ⟨scS_g rfl,List.forall_mem_cons.2 ⟨hsl (by omega),List.forall_mem_cons.2 ⟨hsl (by omega),List.forall_mem_cons.2 ⟨hsl (by omega),fun _ h=>(by cases h)⟩⟩⟩⟩⟩⟩
theorem h155_Q {a:A155}(h6:a.k0<2003∧a.k1<2003∧a.kd<2003∧a.kt<2003){h:Heap}{s:Nst}{w:List Int}(x1:look h 7=some (stH a (.slice (some ⟨2003,0,none⟩) a.D.length a.D.length)))(x2:look h 2003=some (.cells true false 1 (flat elI.fl s.face)))(x3:look h 2004=some (.cells true false 1 (flat elB.fl s.seen)))
  (x4:look h 2005=some (.cells true false 1 (flat elI.fl w))):∀ p∈h155 a s++[(2005,.cells true false 1 (flat elI.fl w))],((2003≤p.1∧p.1<2006∧2003≤rn [] p.1)∨p.1<2003)∧∃ o',look h (rn [] p.1)=some o'∧ObjRen (rn []) 2006 p.2 o':=by
 intro p hp
 rcases List.mem_append.1 hp with hp|hp
 ·exact h155_P h6 (by omega) x1 x2 x3 p hp
 ·simp only [List.mem_cons,List.not_mem_nil,or_false] at hp
  subst hp
  exact⟨.inl ⟨by omega,by omega,by show 2003≤2005;omega⟩,_,x4,ObjRen_g (flat_g _ _)⟩
theorem HOK_no {W:Heap}{b q:Nat}(h:HOK W b)(hq:b≤q):look W q=none:=by
 cases hl:look W q with
 |none=>rfl
 |some o=>have:=(h q o hl).1;omega
theorem wkS_ok {l:List Pt}{D:List Dt}{ls:List (List Int)}{d:Nat}(h:webB l D ls=true)(h2:wksB D ls=true)(hd:d<D.length):wkS l D ls [iv d]=some (true,wkD D ls d,[]):=by
 have:=List.all_eq_true.1 h2 d (List.mem_range.2 hd)
 show some (webB l D ls&&decide ((0:Int)≤d)&&decide ((d:Int)<D.length)&&decide (itN D ls d (perD D ls d)=d),wkD D ls d,[])=_
 rw [h,decide_eq_true (by omega:(0:Int)≤d),decide_eq_true (by omega:(d:Int)<D.length),this]
 rfl
theorem wkD_in {l:List Pt}{D:List Dt}{ls:List (List Int)}{d:Nat}(h:webB l D ls=true)(hd:d<D.length):inR D (wkD D ls d)=true∧(wkD D ls d).length≤D.length+1∧1≤(wkD D ls d).length:=by
 have hp:=perI_low D ls d D.length 1
 refine⟨List.all_eq_true.2 fun x hx=>?_,?_,?_⟩
 ·obtain⟨i,_,rfl⟩:=List.mem_map.1 hx
  have:=itN_in h (d:=d) (by omega) (by omega) i
  simpa using this
 ·unfold wkD perD
  rw [List.length_map,List.length_range]
  omega
 ·unfold wkD perD
  rw [List.length_map,List.length_range]
  omega
theorem arS_ok {l:List Pt}{D:List Dt}{ls:List (List Int)}{L:List Int}(h:wbB l D ls=true)(h1:inR D L=true)(h2:L.length≤100000):arS l D ls L=some (true,iv (arI l D L L.length)):=by
 unfold arS
 rw [h,h1,decide_eq_true h2]
 rfl
theorem out155 {a:A155}(h3:HOK a.R 2003)(h4:look a.R 7=none)(h6:a.k0<2003∧a.k1<2003∧a.kd<2003∧a.kt<2003){h:Heap}{s:Nst}{nx:Nat}{b:Bool}(hb:b=nmOk s)(x1:look h 7=some (stH a (.slice (some ⟨2003,0,none⟩) a.D.length a.D.length)))
  (x2:look h 2003=some (.cells true false 1 (flat elI.fl s.face))) (hx:∀ k o,look a.R k=some o→look h k=some o) :
  ∃ ρ,RenOK 2003 ρ [(0,.tuple #[iv s.many,.bool (nmOk s)])] ((7,stH a (.slice (some ⟨2003,0,none⟩) a.D.length a.D.length))::(2003,.cells true false 1 (flat elI.fl s.face))::a.R) 2004 [(0,.tuple #[iv s.many,.bool b])] h nx:=by
 subst hb
 have hsl:∀ {q a b:Nat},q<2004→nmS 2004 (.slice (some ⟨q,0,none⟩) a b):=fun {q a b} hq=>⟨hq,fun h=>by cases h⟩
 refine⟨id,fun t u hu=>?_,fun k o hk=>?_,fun _ _ _ _ _ _ e=>e,fun _ _=>rfl,by omega⟩
 ·have hm:=look_mem hu
  simp only [List.mem_cons,List.not_mem_nil,or_false] at hm
  injection hm with e1 e2
  subst e1 e2
  exact⟨by rw [ren,tr_g rfl];rfl,scT_g rfl⟩
 ·rw [look_cons] at hk
  split at hk
  ·rename_i hb
   injection hk with hk
   subst hk
   rw [← beq_true hb]
   refine⟨by omega,_,x1,rfl,rfl,rfl,rfl,?_⟩
   exact List.forall_mem_cons.2 ⟨hsl (by omega),List.forall_mem_cons.2 ⟨hsl (by omega),List.forall_mem_cons.2 ⟨scS_g rfl,List.forall_mem_cons.2 ⟨hsl (by omega),List.forall_mem_cons.2 ⟨hsl (by omega),List.forall_mem_cons.2 ⟨hsl (by omega),fun _ h=>(by cases h)⟩⟩⟩⟩⟩⟩
  ·rw [look_cons] at hk
   split at hk
   ·rename_i hb
    injection hk with hk
    subst hk
    rw [← beq_true hb]
    exact⟨by omega,_,x2,ObjRen_g (flat_g _ _)⟩
   ·obtain⟨a1,a2⟩:=h3 k o hk
    exact⟨by omega,o,hx k o hk,ObjRen_low (fun _ _=>rfl) (by omega) a2⟩
theorem xf155:XOK Go.Proofs.Tryz.prog 155 X155:=dX_ok (body_calls (xl:=[Xf83,Xf89]) (.cons xf83 (.cons xf89 .nil))) fun a ⟨h1,h2,h3,h4,h5,h6⟩=>by
 have hn:=wbB_n (webB_wb h1)
 unfold stH
 ((conv=>whnf);refine bm (fun g1=>?_) (fun g1=>?_))
 ·((conv=>whnf);refine bm (fun g1'=>?_) (fun g1'=>?_))
  ·(conv=>whnf)
   refine⟨fun q e h nx=>∃ (i:Nat) (j:Int),j=i∧i≤a.D.length∧q=a.D.length - i∧e=e155 a.D.length (nmAll a.l a.D a.ls i) j∧h=h155 a (nmAll a.l a.D a.ls i)++a.R∧nx=2005,⟨a.D.length,?_⟩,?_⟩
   ·refine Into_kq (P:=h155 a (nmAll a.l a.D a.ls 0)) (W:=a.R) (e0:=e155 a.D.length (nmAll a.l a.D a.ls 0) 0) (n0:=2005) [] ⟨0,0,rfl,Nat.zero_le _,rfl,rfl,rfl,rfl⟩ ?_ h3 ?_ ?_ ?_ (fun _ h=>(by cases h)) (by omega)
    ·unfold e155;((repeat'(refine List.forall_mem_cons.2 ⟨⟨rfl,?_⟩,?_⟩;(first|exact scT_g rfl|exact⟨by decide,rfl⟩|exact⟨by decide,fun h=>(by cases h)⟩)));exact fun _ h=>(by cases h))
    ·exact ext_hput (ext_upd (ext_hput (ext_cons (fun _ _ h=>h) h4) (HOK_no h3 (by omega))) h4) (HOK_no h3 (by omega))
    ·refine h155_P h6 (by omega) rfl ?_ ?_
     ·show some (AObj.cells true false 1 (rep a.D.length [iv 0]))=some (.cells true false 1 (flat elI.fl (List.replicate a.D.length 0)))
      rw [rep_fI]
     ·show some (AObj.cells true false 1 (rep a.D.length [.bool false]))=some (.cells true false 1 (flat elB.fl (List.replicate a.D.length false)))
      rw [rep_fB]
    ·show ∀ k∈[7,2003,2004],∀ k'∈[7,2003,2004],_
     decide
   ·rintro q e h nx ⟨i,j,hj,hi,rfl,rfl,rfl,rfl⟩
    obtain⟨s1,s2,s3,s4,s5,s6⟩:=nmAll_inv a.l a.D a.ls i
    have hst:nmAll a.l a.D a.ls (i+1)=nmStep a.l a.D a.ls (nmAll a.l a.D a.ls i) i:=rfl
    generalize hss:nmAll a.l a.D a.ls i=s at s1 s2 s3 s4 s5 s6 hst ⊢
    unfold e155 h155 stH
    ((conv=>whnf);refine bm (fun g2=>?_) (fun g2=>?_))
    ·have hlt:i<a.D.length:=by simp [cfgS,std] at g2;omega
     ((conv=>whnf);refine bm (fun g3=>?_) (fun g3=>?_))
     ·(conv=>whnf)
      refine boV (getB s.seen (i:=i) (by omega) ?_) ?_
      ·show _+Int.toNat j*1=_;omega
      ((conv=>whnf);refine bm (fun g4=>?_) (fun g4=>?_))
      ·have g4:atB s.seen i=true:=g4
       unfold nmStep at hst
       rw [if_pos g4] at hst
       ((conv=>whnf);refine bm (fun g5=>?_) (fun g5=>?_))
       ·(conv=>whnf)
        refine⟨a.D.length - (i+1),by omega,?_⟩
        refine Into_kq (P:=h155 a (nmAll a.l a.D a.ls (i+1))) (W:=a.R) (e0:=e155 a.D.length (nmAll a.l a.D a.ls (i+1)) (j+1)) (n0:=2005) [] ⟨i+1,j+1,by omega,by omega,rfl,rfl,rfl,rfl⟩ ?_ h3 ?_ ?_ ?_ (fun _ h=>(by cases h)) (by omega)
        ·rw [hst];unfold e155;((repeat'(refine List.forall_mem_cons.2 ⟨⟨rfl,?_⟩,?_⟩;(first|exact scT_g rfl|exact⟨by decide,rfl⟩|exact⟨by decide,fun h=>(by cases h)⟩)));exact fun _ h=>(by cases h))
        ·exact ext_cons (ext_cons (ext_cons (fun _ _ h=>h) (HOK_no h3 (by omega))) (HOK_no h3 (by omega))) h4
        ·rw [hst];exact h155_P h6 (by omega) rfl rfl rfl
        ·show ∀ k∈[7,2003,2004],∀ k'∈[7,2003,2004],_
         decide
       ·exfalso;simp [cfgS,std,fitsK] at g5;omega
      ·have g4:atB s.seen i=false:=g4
       (conv=>whnf)
       have hx0:∀ k o,look a.R k=some o→look ([(7,AObj.cells true false 1 [.slice (some ⟨a.k0,0,none⟩) a.l.length a.c1,.slice (some ⟨a.k1,0,none⟩) a.nE a.c2,iv a.n,.slice (some ⟨a.kd,0,none⟩) a.D.length a.D.length,.slice (some ⟨a.kt,0,none⟩) a.ls.length a.ls.length,.slice (some ⟨2003,0,none⟩) a.D.length a.D.length]),(2003,.cells true false 1 (flat elI.fl s.face)),(2004,.cells true false 1 (flat elB.fl s.seen))]++a.R) k=some o :=
        ext_cons (ext_cons (ext_cons (fun _ _ h=>h) (HOK_no h3 (by omega))) (HOK_no h3 (by omega))) h4
       have hwk:wkS a.l a.D a.ls [iv j]=some (true,wkD a.D a.ls i,[]):=by rw [hj];exact wkS_ok h1 h2 hlt
       obtain⟨w1,w2,w3⟩:=wkD_in h1 hlt
       refine⟨7,[iv j],a.k0,a.k1,a.kd,a.kt,2003,a.nm,a.l,a.D,a.ls,a.nE,a.c1,a.c2,a.n,some (a.D.length,a.D.length),rfl,h5.at hx0 rfl,?_⟩
       rw [hwk]
       unfold nmStep at hst
       rw [if_neg (by rw [g4];decide)] at hst
       simp only at hst
       generalize wkD a.D a.ls i=w at w1 w2 w3 hst hwk ⊢
       refine must_of rfl ?_
       (conv=>whnf)
       refine⟨7,2005,a.k0,a.k1,a.kd,a.kt,2003,a.nm,a.l,a.D,a.ls,a.nE,a.c1,a.c2,a.n,some (a.D.length,a.D.length),w,w.length,rfl,h5.at (ext_hput hx0 (HOK_no h3 (by omega))) rfl,⟨_,_,_,_,rfl,List.take_length⟩,?_⟩
       rw [arS_ok (webB_wb h1) w1 (by omega)]
       generalize arI a.l a.D w w.length=A at hst ⊢
       refine must_of rfl ?_
       ((conv=>whnf);refine bm (fun g6=>?_) (fun g6=>?_))
       ·have hA:0<A:=by simpa [cfgS,std] using g6
        simp only [if_pos hA] at hst
        ((conv=>whnf);refine bm (fun g7=>?_) (fun g7=>?_))
        ·skip
         have hst1:nmAll a.l a.D a.ls (i+1)=⟨setF s.face w (s.many+1) w.length,setT s.seen w w.length,s.many+1,s.out,s.flat⟩:=by rw [hst]
         (conv=>whnf)
         refine⟨fun q e h nx=>∃ (t:Nat) (x:Int),x=t∧t≤w.length∧q=w.length - t∧e=e155c a.D.length ⟨setF s.face w (s.many+1) t,setT s.seen w t,s.many+1,s.out,s.flat⟩ j (s.many+1) w.length x∧h=(h155 a ⟨setF s.face w (s.many+1) t,setT s.seen w t,s.many+1,s.out,s.flat⟩++[(2005,.cells true false 1 (flat elI.fl w))])++a.R∧nx=2006,⟨w.length,?_⟩,?_⟩
         ·refine Into_kq (P:=h155 a ⟨s.face,s.seen,s.many+1,s.out,s.flat⟩++[(2005,.cells true false 1 (flat elI.fl w))]) (W:=a.R) (e0:=e155c a.D.length ⟨s.face,s.seen,s.many+1,s.out,s.flat⟩ j (s.many+1) w.length 0) (n0:=2006) [] ⟨0,0,rfl,Nat.zero_le _,rfl,rfl,rfl,rfl⟩ ?_ h3 ?_ ?_ ?_ (fun _ h=>(by cases h)) (by omega)
          ·unfold e155c e155;((repeat'(refine List.forall_mem_cons.2 ⟨⟨rfl,?_⟩,?_⟩;(first|exact scT_g rfl|exact⟨by decide,rfl⟩|exact⟨by decide,fun h=>(by cases h)⟩)));exact fun _ h=>(by cases h))
          ·exact ext_hput hx0 (HOK_no h3 (by omega))
          ·exact h155_Q h6 rfl rfl rfl rfl
          ·show ∀ k∈[7,2003,2004,2005],∀ k'∈[7,2003,2004,2005],_
           decide
         ·rintro q e h nx ⟨t,x,hx,ht,rfl,rfl,rfl,rfl⟩
          unfold e155c e155 h155 stH
          ((conv=>whnf);refine bm (fun m1=>?_) (fun m1=>?_))
          ·have htl:t<w.length:=by simp [cfgS,std] at m1;omega
           have hwd:=inR_at w1 (i:=t) htl
           ((conv=>whnf);refine bm (fun m2=>?_) (fun m2=>?_))
           ·(conv=>whnf)
            refine boV (getI w (i:=t) htl ?_) ?_
            ·show _+Int.toNat x*1=_;omega
            have hsf:=setF_len s.face w (s.many+1) t
            have hss:=setT_len s.seen w t
            repeat' first
             |(((conv=>whnf);refine bm (fun m=>?_) (fun m=>?_)))
            all_goals first
             |(exfalso;simp [cfgS,std,fitsK] at m;omega)
             |(exfalso
               have hb:Nat.ble (0+Int.toNat (atI w t)*1+1) (flat elB.fl (setT s.seen w t)).length=true:=Nat.ble_eq_true_of_le (by rw [flat_len];show _≤(setT s.seen w t).length*1;omega)
               exact Bool.false_ne_true (m.symm.trans hb))
             |(exfalso
               have hb:Nat.ble (0+Int.toNat (atI w t)*1+1) (flat elI.fl (setF s.face w (s.many+1) t)).length=true:=Nat.ble_eq_true_of_le (by rw [flat_len];show _≤(setF s.face w (s.many+1) t).length*1;omega)
               exact Bool.false_ne_true (m.symm.trans hb))
             |skip
            (conv=>whnf)
            refine⟨w.length - (t+1),by omega,?_⟩
            refine Into_kq (P:=h155 a ⟨setF s.face w (s.many+1) (t+1),setT s.seen w (t+1),s.many+1,s.out,s.flat⟩++[(2005,.cells true false 1 (flat elI.fl w))]) (W:=a.R) (e0:=e155c a.D.length ⟨setF s.face w (s.many+1) (t+1),setT s.seen w (t+1),s.many+1,s.out,s.flat⟩ j (s.many+1) w.length (x+1)) (n0:=2006) [] ⟨t+1,x+1,by omega,by omega,rfl,rfl,rfl,rfl⟩ ?_ h3 ?_ ?_ ?_ (fun _ h=>(by cases h)) (by omega)
            ·unfold e155c e155;((repeat'(refine List.forall_mem_cons.2 ⟨⟨rfl,?_⟩,?_⟩;(first|exact scT_g rfl|exact⟨by decide,rfl⟩|exact⟨by decide,fun h=>(by cases h)⟩)));exact fun _ h=>(by cases h))
            ·exact ext_upd (ext_upd (ext_cons (ext_cons (ext_cons (ext_cons (fun _ _ h=>h) (HOK_no h3 (by omega))) (HOK_no h3 (by omega))) (HOK_no h3 (by omega))) h4) (HOK_no h3 (by omega))) (HOK_no h3 (by omega))
            ·refine h155_Q h6 rfl ?_ ?_ rfl
             ·show some (AObj.cells true false 1 (putN (flat elI.fl (setF s.face w (s.many+1) t)) (0+Int.toNat (atI w t)*1) [iv (s.many+1)]))=_
              rw [put_setF (by omega) (by omega)]
             ·show some (AObj.cells true false 1 (putN (flat elB.fl (setT s.seen w t)) (0+Int.toNat (atI w t)*1) [.bool true]))=_
              rw [put_setT (by omega) (by omega)]
            ·show ∀ k∈[7,2003,2004,2005],∀ k'∈[7,2003,2004,2005],_
             decide
           ·exfalso;simp [cfgS,std] at m2;omega
          ·have htl:t=w.length:=by simp [cfgS,std] at m1;omega
           ((conv=>whnf);refine bm (fun m2=>?_) (fun m2=>?_))
           ·(conv=>whnf)
            refine⟨a.D.length - (i+1),by omega,?_⟩
            refine Into_kq (P:=h155 a (nmAll a.l a.D a.ls (i+1))) (W:=a.R) (e0:=e155 a.D.length (nmAll a.l a.D a.ls (i+1)) (j+1)) (n0:=2005) [] ⟨i+1,j+1,by omega,by omega,rfl,rfl,rfl,rfl⟩ ?_ h3 ?_ ?_ ?_ (fun _ h=>(by cases h)) (by omega)
            ·rw [hst1];unfold e155;((repeat'(refine List.forall_mem_cons.2 ⟨⟨rfl,?_⟩,?_⟩;(first|exact scT_g rfl|exact⟨by decide,rfl⟩|exact⟨by decide,fun h=>(by cases h)⟩)));exact fun _ h=>(by cases h))
            ·exact (ext_cons (ext_cons (ext_cons (ext_cons (fun _ _ h=>h) (HOK_no h3 (by omega))) (HOK_no h3 (by omega))) (HOK_no h3 (by omega))) h4)
            ·rw [hst1,← htl];exact h155_P h6 (by omega) rfl rfl rfl
            ·show ∀ k∈[7,2003,2004],∀ k'∈[7,2003,2004],_
             decide
           ·exfalso;simp [cfgS,std,fitsK] at m2;omega
        ·exfalso;simp [cfgS,std,fitsK] at g7;omega
       ·have hA:¬ 0<A:=by simpa [cfgS,std] using g6
        simp only [if_neg hA] at hst
        ((conv=>whnf);refine bm (fun g7=>?_) (fun g7=>?_))
        ·have hA2:A<0:=by simpa [cfgS,std] using g7
         simp only [if_pos hA2] at hst
         ((conv=>whnf);refine bm (fun g8=>?_) (fun g8=>?_))
         ·skip
          have hst1:nmAll a.l a.D a.ls (i+1)=⟨setF s.face w (0) w.length,setT s.seen w w.length,s.many,s.out+1,s.flat⟩:=by rw [hst]
          (conv=>whnf)
          refine⟨fun q e h nx=>∃ (t:Nat) (x:Int),x=t∧t≤w.length∧q=w.length - t∧e=e155c a.D.length ⟨setF s.face w (0) t,setT s.seen w t,s.many,s.out+1,s.flat⟩ j (0) w.length x∧h=(h155 a ⟨setF s.face w (0) t,setT s.seen w t,s.many,s.out+1,s.flat⟩++[(2005,.cells true false 1 (flat elI.fl w))])++a.R∧nx=2006,⟨w.length,?_⟩,?_⟩
          ·refine Into_kq (P:=h155 a ⟨s.face,s.seen,s.many,s.out+1,s.flat⟩++[(2005,.cells true false 1 (flat elI.fl w))]) (W:=a.R) (e0:=e155c a.D.length ⟨s.face,s.seen,s.many,s.out+1,s.flat⟩ j (0) w.length 0) (n0:=2006) [] ⟨0,0,rfl,Nat.zero_le _,rfl,rfl,rfl,rfl⟩ ?_ h3 ?_ ?_ ?_ (fun _ h=>(by cases h)) (by omega)
           ·unfold e155c e155;((repeat'(refine List.forall_mem_cons.2 ⟨⟨rfl,?_⟩,?_⟩;(first|exact scT_g rfl|exact⟨by decide,rfl⟩|exact⟨by decide,fun h=>(by cases h)⟩)));exact fun _ h=>(by cases h))
           ·exact ext_hput hx0 (HOK_no h3 (by omega))
           ·exact h155_Q h6 rfl rfl rfl rfl
           ·show ∀ k∈[7,2003,2004,2005],∀ k'∈[7,2003,2004,2005],_
            decide
          ·rintro q e h nx ⟨t,x,hx,ht,rfl,rfl,rfl,rfl⟩
           unfold e155c e155 h155 stH
           ((conv=>whnf);refine bm (fun m1=>?_) (fun m1=>?_))
           ·have htl:t<w.length:=by simp [cfgS,std] at m1;omega
            have hwd:=inR_at w1 (i:=t) htl
            ((conv=>whnf);refine bm (fun m2=>?_) (fun m2=>?_))
            ·(conv=>whnf)
             refine boV (getI w (i:=t) htl ?_) ?_
             ·show _+Int.toNat x*1=_;omega
             have hsf:=setF_len s.face w (0) t
             have hss:=setT_len s.seen w t
             repeat' first
              |(((conv=>whnf);refine bm (fun m=>?_) (fun m=>?_)))
             all_goals first
              |(exfalso;simp [cfgS,std,fitsK] at m;omega)
              |(exfalso
                have hb:Nat.ble (0+Int.toNat (atI w t)*1+1) (flat elB.fl (setT s.seen w t)).length=true:=Nat.ble_eq_true_of_le (by rw [flat_len];show _≤(setT s.seen w t).length*1;omega)
                exact Bool.false_ne_true (m.symm.trans hb))
              |(exfalso
                have hb:Nat.ble (0+Int.toNat (atI w t)*1+1) (flat elI.fl (setF s.face w (0) t)).length=true:=Nat.ble_eq_true_of_le (by rw [flat_len];show _≤(setF s.face w (0) t).length*1;omega)
                exact Bool.false_ne_true (m.symm.trans hb))
              |skip
             (conv=>whnf)
             refine⟨w.length - (t+1),by omega,?_⟩
             refine Into_kq (P:=h155 a ⟨setF s.face w (0) (t+1),setT s.seen w (t+1),s.many,s.out+1,s.flat⟩++[(2005,.cells true false 1 (flat elI.fl w))]) (W:=a.R) (e0:=e155c a.D.length ⟨setF s.face w (0) (t+1),setT s.seen w (t+1),s.many,s.out+1,s.flat⟩ j (0) w.length (x+1)) (n0:=2006) [] ⟨t+1,x+1,by omega,by omega,rfl,rfl,rfl,rfl⟩ ?_ h3 ?_ ?_ ?_ (fun _ h=>(by cases h)) (by omega)
             ·unfold e155c e155;((repeat'(refine List.forall_mem_cons.2 ⟨⟨rfl,?_⟩,?_⟩;(first|exact scT_g rfl|exact⟨by decide,rfl⟩|exact⟨by decide,fun h=>(by cases h)⟩)));exact fun _ h=>(by cases h))
             ·exact ext_upd (ext_upd (ext_cons (ext_cons (ext_cons (ext_cons (fun _ _ h=>h) (HOK_no h3 (by omega))) (HOK_no h3 (by omega))) (HOK_no h3 (by omega))) h4) (HOK_no h3 (by omega))) (HOK_no h3 (by omega))
             ·refine h155_Q h6 rfl ?_ ?_ rfl
              ·show some (AObj.cells true false 1 (putN (flat elI.fl (setF s.face w (0) t)) (0+Int.toNat (atI w t)*1) [iv (0)]))=_
               rw [put_setF (by omega) (by omega)]
              ·show some (AObj.cells true false 1 (putN (flat elB.fl (setT s.seen w t)) (0+Int.toNat (atI w t)*1) [.bool true]))=_
               rw [put_setT (by omega) (by omega)]
             ·show ∀ k∈[7,2003,2004,2005],∀ k'∈[7,2003,2004,2005],_
              decide
            ·exfalso;simp [cfgS,std] at m2;omega
           ·have htl:t=w.length:=by simp [cfgS,std] at m1;omega
            ((conv=>whnf);refine bm (fun m2=>?_) (fun m2=>?_))
            ·(conv=>whnf)
             refine⟨a.D.length - (i+1),by omega,?_⟩
             refine Into_kq (P:=h155 a (nmAll a.l a.D a.ls (i+1))) (W:=a.R) (e0:=e155 a.D.length (nmAll a.l a.D a.ls (i+1)) (j+1)) (n0:=2005) [] ⟨i+1,j+1,by omega,by omega,rfl,rfl,rfl,rfl⟩ ?_ h3 ?_ ?_ ?_ (fun _ h=>(by cases h)) (by omega)
             ·rw [hst1];unfold e155;((repeat'(refine List.forall_mem_cons.2 ⟨⟨rfl,?_⟩,?_⟩;(first|exact scT_g rfl|exact⟨by decide,rfl⟩|exact⟨by decide,fun h=>(by cases h)⟩)));exact fun _ h=>(by cases h))
             ·exact (ext_cons (ext_cons (ext_cons (ext_cons (fun _ _ h=>h) (HOK_no h3 (by omega))) (HOK_no h3 (by omega))) (HOK_no h3 (by omega))) h4)
             ·rw [hst1,← htl];exact h155_P h6 (by omega) rfl rfl rfl
             ·show ∀ k∈[7,2003,2004],∀ k'∈[7,2003,2004],_
              decide
            ·exfalso;simp [cfgS,std,fitsK] at m2;omega
         ·exfalso;simp [cfgS,std,fitsK] at g8;omega
        ·have hA2:¬ A<0:=by simpa [cfgS,std] using g7
         simp only [if_neg hA2] at hst
         have hst1:nmAll a.l a.D a.ls (i+1)=⟨setF s.face w (0) w.length,setT s.seen w w.length,s.many,s.out,true⟩:=by rw [hst]
         (conv=>whnf)
         refine⟨fun q e h nx=>∃ (t:Nat) (x:Int),x=t∧t≤w.length∧q=w.length - t∧e=e155c a.D.length ⟨setF s.face w (0) t,setT s.seen w t,s.many,s.out,true⟩ j (0) w.length x∧h=(h155 a ⟨setF s.face w (0) t,setT s.seen w t,s.many,s.out,true⟩++[(2005,.cells true false 1 (flat elI.fl w))])++a.R∧nx=2006,⟨w.length,?_⟩,?_⟩
         ·refine Into_kq (P:=h155 a ⟨s.face,s.seen,s.many,s.out,true⟩++[(2005,.cells true false 1 (flat elI.fl w))]) (W:=a.R) (e0:=e155c a.D.length ⟨s.face,s.seen,s.many,s.out,true⟩ j (0) w.length 0) (n0:=2006) [] ⟨0,0,rfl,Nat.zero_le _,rfl,rfl,rfl,rfl⟩ ?_ h3 ?_ ?_ ?_ (fun _ h=>(by cases h)) (by omega)
          ·unfold e155c e155;((repeat'(refine List.forall_mem_cons.2 ⟨⟨rfl,?_⟩,?_⟩;(first|exact scT_g rfl|exact⟨by decide,rfl⟩|exact⟨by decide,fun h=>(by cases h)⟩)));exact fun _ h=>(by cases h))
          ·exact ext_hput hx0 (HOK_no h3 (by omega))
          ·exact h155_Q h6 rfl rfl rfl rfl
          ·show ∀ k∈[7,2003,2004,2005],∀ k'∈[7,2003,2004,2005],_
           decide
         ·rintro q e h nx ⟨t,x,hx,ht,rfl,rfl,rfl,rfl⟩
          unfold e155c e155 h155 stH
          ((conv=>whnf);refine bm (fun m1=>?_) (fun m1=>?_))
          ·have htl:t<w.length:=by simp [cfgS,std] at m1;omega
           have hwd:=inR_at w1 (i:=t) htl
           ((conv=>whnf);refine bm (fun m2=>?_) (fun m2=>?_))
           ·(conv=>whnf)
            refine boV (getI w (i:=t) htl ?_) ?_
            ·show _+Int.toNat x*1=_;omega
            have hsf:=setF_len s.face w (0) t
            have hss:=setT_len s.seen w t
            repeat' first
             |(((conv=>whnf);refine bm (fun m=>?_) (fun m=>?_)))
            all_goals first
             |(exfalso;simp [cfgS,std,fitsK] at m;omega)
             |(exfalso
               have hb:Nat.ble (0+Int.toNat (atI w t)*1+1) (flat elB.fl (setT s.seen w t)).length=true:=Nat.ble_eq_true_of_le (by rw [flat_len];show _≤(setT s.seen w t).length*1;omega)
               exact Bool.false_ne_true (m.symm.trans hb))
             |(exfalso
               have hb:Nat.ble (0+Int.toNat (atI w t)*1+1) (flat elI.fl (setF s.face w (0) t)).length=true:=Nat.ble_eq_true_of_le (by rw [flat_len];show _≤(setF s.face w (0) t).length*1;omega)
               exact Bool.false_ne_true (m.symm.trans hb))
             |skip
            (conv=>whnf)
            refine⟨w.length - (t+1),by omega,?_⟩
            refine Into_kq (P:=h155 a ⟨setF s.face w (0) (t+1),setT s.seen w (t+1),s.many,s.out,true⟩++[(2005,.cells true false 1 (flat elI.fl w))]) (W:=a.R) (e0:=e155c a.D.length ⟨setF s.face w (0) (t+1),setT s.seen w (t+1),s.many,s.out,true⟩ j (0) w.length (x+1)) (n0:=2006) [] ⟨t+1,x+1,by omega,by omega,rfl,rfl,rfl,rfl⟩ ?_ h3 ?_ ?_ ?_ (fun _ h=>(by cases h)) (by omega)
            ·unfold e155c e155;((repeat'(refine List.forall_mem_cons.2 ⟨⟨rfl,?_⟩,?_⟩;(first|exact scT_g rfl|exact⟨by decide,rfl⟩|exact⟨by decide,fun h=>(by cases h)⟩)));exact fun _ h=>(by cases h))
            ·exact ext_upd (ext_upd (ext_cons (ext_cons (ext_cons (ext_cons (fun _ _ h=>h) (HOK_no h3 (by omega))) (HOK_no h3 (by omega))) (HOK_no h3 (by omega))) h4) (HOK_no h3 (by omega))) (HOK_no h3 (by omega))
            ·refine h155_Q h6 rfl ?_ ?_ rfl
             ·show some (AObj.cells true false 1 (putN (flat elI.fl (setF s.face w (0) t)) (0+Int.toNat (atI w t)*1) [iv (0)]))=_
              rw [put_setF (by omega) (by omega)]
             ·show some (AObj.cells true false 1 (putN (flat elB.fl (setT s.seen w t)) (0+Int.toNat (atI w t)*1) [.bool true]))=_
              rw [put_setT (by omega) (by omega)]
            ·show ∀ k∈[7,2003,2004,2005],∀ k'∈[7,2003,2004,2005],_
             decide
           ·exfalso;simp [cfgS,std] at m2;omega
          ·have htl:t=w.length:=by simp [cfgS,std] at m1;omega
           ((conv=>whnf);refine bm (fun m2=>?_) (fun m2=>?_))
           ·(conv=>whnf)
            refine⟨a.D.length - (i+1),by omega,?_⟩
            refine Into_kq (P:=h155 a (nmAll a.l a.D a.ls (i+1))) (W:=a.R) (e0:=e155 a.D.length (nmAll a.l a.D a.ls (i+1)) (j+1)) (n0:=2005) [] ⟨i+1,j+1,by omega,by omega,rfl,rfl,rfl,rfl⟩ ?_ h3 ?_ ?_ ?_ (fun _ h=>(by cases h)) (by omega)
            ·rw [hst1];unfold e155;((repeat'(refine List.forall_mem_cons.2 ⟨⟨rfl,?_⟩,?_⟩;(first|exact scT_g rfl|exact⟨by decide,rfl⟩|exact⟨by decide,fun h=>(by cases h)⟩)));exact fun _ h=>(by cases h))
            ·exact (ext_cons (ext_cons (ext_cons (ext_cons (fun _ _ h=>h) (HOK_no h3 (by omega))) (HOK_no h3 (by omega))) (HOK_no h3 (by omega))) h4)
            ·rw [hst1,← htl];exact h155_P h6 (by omega) rfl rfl rfl
            ·show ∀ k∈[7,2003,2004],∀ k'∈[7,2003,2004],_
             decide
           ·exfalso;simp [cfgS,std,fitsK] at m2;omega
     ·exfalso;simp [cfgS,std] at g3;omega
    ·have hge:i=a.D.length:=by simp [cfgS,std] at g2;omega
     subst hge
     unfold HF155 nmD
     rw [hss]
     ((conv=>whnf);refine bm (fun g3=>?_) (fun g3=>?_))
     ·have g3:s.out=1:=by simpa [cfgS,std] using g3
      (conv=>whnf)
      refine out155 h3 h4 h6 (b:=!s.flat) (by unfold nmOk;rw [decide_eq_true g3];rfl) rfl rfl (ext_cons (ext_cons (ext_cons (fun _ _ h=>h) (HOK_no h3 (by omega))) (HOK_no h3 (by omega))) h4)
     ·have g3:¬ s.out=1:=by simpa [cfgS,std] using g3
      (conv=>whnf)
      refine out155 h3 h4 h6 (b:=false) (by unfold nmOk;rw [decide_eq_false g3];rfl) rfl rfl (ext_cons (ext_cons (ext_cons (fun _ _ h=>h) (HOK_no h3 (by omega))) (HOK_no h3 (by omega))) h4)
  ·exfalso;simp [cfgS,std,fitsK] at g1';omega
 ·exfalso;simp [cfgS,std,fitsK] at g1;omega
end Go.Aw
end

noncomputable section
namespace Go.Aw
set_option maxRecDepth 100000
set_option maxHeartbeats 2000000
theorem ObjRen_sh {b n:Nat}{o:AObj}(h:ObjRen id b o o)(hc:isCells o=true):ObjRen id (n+b) (shO n o) (shO n o):=by
 cases o with
 |cells wr g sz cs =>
  obtain⟨_,_,_,h4,h5⟩:=h
  have key:∀ v∈cs,ren1 id (ren1 (fun k=>n+k) v)=ren1 (fun k=>n+k) v∧nmS (n+b) (ren1 (fun k=>n+k) v):=fun v hv=>by
   have hn:nmS (n+b) (ren1 (fun k=>n+k) v):=scS_into (m:=b) (scS_at (h5 v hv)) (fun k hk=>by omega)
   refine⟨?_,hn⟩
   unfold ren1
   rw [trS_ren (n:=n+b) hn]
   rfl
  refine⟨rfl,rfl,rfl,?_,fun v hv=>?_⟩
  ·rw [List.map_map]
   exact List.map_congr_left fun v hv=>(key v hv).1.symm
  ·obtain⟨u,hu,rfl⟩:=List.mem_map.1 hv
   exact (key u hu).2
 |_=>cases hc
theorem HOK_sh {W:Heap}{b n:Nat}(h:HOK W b)(hc:cellsH W=true):HOK (shH n W) (n+b):=fun k o hk=>by
 obtain⟨j,o',rfl,h1,rfl⟩:=look_shH W hk
 obtain⟨a1,a2⟩:=h j o' h1
 obtain⟨wr,g,sz,cs,rfl⟩:=cellsH_look hc h1
 exact⟨by omega,ObjRen_sh a2 rfl⟩
theorem HOK_shut {W:Heap}{b:Nat}(h:HOK W b)(hc:cellsH W=true):HOK (shutH W) b:=fun k o hk=>by
 rw [look_shutH] at hk
 cases hq:look W k with
 |none=>rw [hq] at hk;cases hk
 |some q =>
  rw [hq] at hk
  injection hk with hk
  subst hk
  obtain⟨a1,a2⟩:=h k q hq
  obtain⟨wr,g,sz,cs,rfl⟩:=cellsH_look hc hq
  exact⟨a1,rfl,rfl,rfl,a2.2.2.2.1,a2.2.2.2.2⟩
theorem HOK_app {A B:Heap}{b:Nat}(hA:HOK A b)(hB:HOK B b):HOK (app A B) b:=fun k o hk=>by
 rw [look_app] at hk
 split at hk
 ·rename_i o' ho
  injection hk with hk
  subst hk
  exact hA k o' ho
 ·exact hB k o hk
def webT (l:List Pt)(m:List Ed):Heap :=
 (6,.cells true false 5 (flat elD.fl (dts l m m.length)))::(5,.cells true false 1 (tC (outs l m).length (outs l m)))::(0,.cells false true elP.sz (flat elP.fl l))::(1,.cells false true elE.sz (flat elE.fl m))::tH (outs l m).length (outs l m) (outs l m).length
theorem webT_mem {l:List Pt}{m:List Ed}{p:Nat × AObj}(h:p∈webT l m):p=(6,.cells true false 5 (flat elD.fl (dts l m m.length)))∨p=(5,.cells true false 1 (tC (outs l m).length (outs l m)))∨p=(0,.cells false true elP.sz (flat elP.fl l))∨p=(1,.cells false true elE.sz (flat elE.fl m)) ∨
  ∃ i,i<(outs l m).length∧(atL (outs l m) i).length≠0∧p=(i+1000,ob (atL (outs l m) i)):=by
 unfold webT at h
 simp only [List.mem_cons] at h
 rcases h with h|h|h|h|h
 ·exact .inl h
 ·exact .inr (.inl h)
 ·exact .inr (.inr (.inl h))
 ·exact .inr (.inr (.inr (.inl h)))
 ·obtain⟨i,h1,h2,h3,h4⟩:=tH_mem h
  exact .inr (.inr (.inr (.inr ⟨i,h1,h3,h4⟩)))
theorem webT_hok {l:List Pt}{m:List Ed}(hl:l.length≤1000):HOK (webT l m) 2000:=fun k o hk=>by
 have hol:=outs_len l m
 rcases webT_mem (look_mem hk) with h|h|h|h|⟨i,h1,h2,h⟩
 ·injection h with e1 e2;subst e1 e2;exact⟨by omega,ObjRen_g (flat_g _ _)⟩
 ·injection h with e1 e2;subst e1 e2
  exact⟨by omega,rfl,rfl,rfl,tC_ren (ρ:=id) (tC_len _ _) fun i hi=>tC_at hi,tC_nm (by omega) (by omega)⟩
 ·injection h with e1 e2;subst e1 e2;exact⟨by omega,ObjRen_g (flat_g _ _)⟩
 ·injection h with e1 e2;subst e1 e2;exact⟨by omega,ObjRen_g (flat_g _ _)⟩
 ·injection h with e1 e2;subst e1 e2;exact⟨by omega,ObjRen_g (flat_g _ _)⟩
theorem webT_cells {l:List Pt}{m:List Ed}:cellsH (webT l m)=true:=tH_cells _ _ _
def h69 (l:List Pt)(m:List Ed)(c1 c2:Nat)(n:Int):Heap:=(2,bxM l.length m.length c1 c2 n)::mapH2 elP elE l m
theorem h69_hok {l:List Pt}{m:List Ed}{c1 c2:Nat}{n:Int}:HOK (h69 l m c1 c2 n) 3:=by
 refine HOK_cons (HOK_cons (HOK_cons (fun k o hk=>by cases hk) (by omega) (ObjRen_g (flat_g _ _))) (by omega) (ObjRen_g (flat_g _ _))) (by omega) ⟨rfl,rfl,rfl,rfl,?_⟩
 exact List.forall_mem_cons.2 ⟨⟨Nat.le_of_ble_eq_true rfl,fun h=>by cases h⟩,List.forall_mem_cons.2 ⟨⟨Nat.le_of_ble_eq_true rfl,fun h=>by cases h⟩,List.forall_mem_cons.2 ⟨scS_g rfl,fun _ h=>(by cases h)⟩⟩⟩
def rest69 (l:List Pt)(m:List Ed)(c1 c2:Nat)(n:Int):Heap:=app (shH 3 (webT l m)) (shutH (h69 l m c1 c2 n))
def a69 (l:List Pt)(m:List Ed)(c1 c2:Nat)(n:Int):A155:=⟨rest69 l m c1 c2 n,3,4,9,8,fun i=>3+(i+1000),l,dts l m m.length,outs l m,m.length,c1,c2,n⟩
theorem a69_eq {l:List Pt}{m:List Ed}{c1 c2:Nat}{n:Int}:app (shH 3 (webM l m c1 c2 n)) (shutH (h69 l m c1 c2 n))=(7,stH (a69 l m c1 c2 n) nilS)::rest69 l m c1 c2 n:=by
 unfold stH a69
 simp only [dts_len,outs_len]
 rfl
theorem look_r {l:List Pt}{m:List Ed}{c1 c2:Nat}{n:Int}{j:Nat}{o:AObj}(h:look (webT l m) j=some o):look (rest69 l m c1 c2 n) (3+j)=some (shO 3 o):=by
 unfold rest69
 rw [look_app,look_shH' _ h]
theorem a69_wbr {l:List Pt}{m:List Ed}{c1 c2:Nat}{n:Int}:WbR (rest69 l m c1 c2 n) 3 9 8 (fun i=>3+(i+1000)) l (dts l m m.length) (outs l m):=by
 have hfl:∀ {α:Type} (E:El α) (x:List α),(flat E.fl x).map (ren1 fun k=>3+k)=flat E.fl x:=fun E x=>map_trS_g (flat_g E x)
 refine⟨⟨_,_,_,_,look_r (j:=0) rfl,?_⟩,⟨_,_,_,_,look_r (j:=6) rfl,?_⟩,⟨true,false,1,?_⟩,fun i hi h0=>⟨true,false,1,flat elI.fl (atL (outs l m) i),?_,List.take_length⟩⟩
 ·rw [hfl];exact List.take_length
 ·rw [hfl];exact List.take_length
 ·rw [look_r (j:=5) (o:=.cells true false 1 (tC (outs l m).length (outs l m))) rfl]
  show some (AObj.cells true false 1 ((tC (outs l m).length (outs l m)).map (ren1 fun k=>3+k)))=_
  unfold tC
  rw [List.map_map]
  congr 2
  refine List.map_congr_left fun i hi=>?_
  show ren1 _ (tV (tN (outs l m).length i) (atL (outs l m) i))=_
  rw [tV_ren]
  unfold tN
  rw [if_neg (by have:=List.mem_range.1 hi;omega)]
 ·have:look (webT l m) (i+1000)=some (ob (atL (outs l m) i)):=by
   unfold webT
   rw [look_ne (by omega),look_ne (by omega),look_ne (by omega),look_ne (by omega)]
   exact tH_look (by omega) h0 hi
  rw [look_r this]
  show some (AObj.cells true false 1 ((flat elI.fl (atL (outs l m) i)).map (ren1 fun k=>3+k)))=_
  rw [hfl]
theorem a69_7 {l:List Pt}{m:List Ed}{c1 c2:Nat}{n:Int}:look (rest69 l m c1 c2 n) 7=none:=by
 cases hl:look (rest69 l m c1 c2 n) 7 with
 |none=>rfl
 |some o =>
  exfalso
  unfold rest69 at hl
  rw [look_app] at hl
  split at hl
  ·rename_i o' ho
   obtain⟨j,q,e1,e2,_⟩:=look_shH _ ho
   rcases webT_mem (look_mem e2) with h|h|h|h|⟨i,h1,h2,h⟩ <;> (injection h with e3 e4;omega)
  ·cases hl
theorem a69_hok {l:List Pt}{m:List Ed}{c1 c2:Nat}{n:Int}(hl:l.length≤1000):HOK (rest69 l m c1 c2 n) 2003 :=
 HOK_app (HOK_sh (n:=3) (webT_hok hl) webT_cells) (HOK_mono (HOK_shut h69_hok rfl) (by omega))
theorem a69_ok {l:List Pt}{m:List Ed}{c1 c2:Nat}{n:Int}(hl:l.length≤1000)(h1:webB l (dts l m m.length) (outs l m)=true)(h2:wksB (dts l m m.length) (outs l m)=true):ok155 (a69 l m c1 c2 n) :=
 ⟨h1,h2,a69_hok hl,a69_7,a69_wbr,Nat.le_of_ble_eq_true rfl,Nat.le_of_ble_eq_true rfl,Nat.le_of_ble_eq_true rfl,Nat.le_of_ble_eq_true rfl⟩
end Go.Aw
end
