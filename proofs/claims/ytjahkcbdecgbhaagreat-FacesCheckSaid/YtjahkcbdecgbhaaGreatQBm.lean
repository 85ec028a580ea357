/-
  Parts of the proof, put together. No condition.
-/
import Derived.Test.YtjahkcbdecgbhaaGreatQAu
import Derived.Test.YtjahkcbdecgbhaaGreatQBj
import Derived.Test.YtjahkcbdecgbhaaGreatQBl
set_option linter.unusedSimpArgs false
set_option linter.unusedVariables false
noncomputable section
namespace Go.Aw
set_option maxRecDepth 100000
theorem soon_iff (v u w x:Pt):soonI v u w x=true↔soon (sub2 u v) (sub2 w v) (sub2 x v):=by
 have h1:∀ a b,rankI v a b=rk (sub2 a v) (sub2 b v):=fun a b=>rfl
 unfold soonI soon
 rw [h1,h1,cross_cr]
 split
 ·rename_i e
  rw [decide_eq_true_iff]
  constructor
  ·exact fun h=>.inr ⟨e,h⟩
  ·rintro (h|⟨_,h⟩)
   ·omega
   ·exact h
 ·rename_i e
  rw [decide_eq_true_iff]
  constructor
  ·exact fun h=>.inl h
  ·rintro (h|⟨h,_⟩)
   ·exact h
   ·exact absurd h e
section
variable {l:List Pt}{m:List Ed}{n:Int}
abbrev dirX (l:List Pt)(m:List Ed)(x:Int):V2:=dirD (atD (dts l m m.length) x.toNat)
theorem outs_bef (hp:plnB l m n=true){s:Nat}(hs:s<l.length){i j:Nat}(hij:i<j)(hj:j<(atL (outs l m) s).length):bef (dirX l m (atI (atL (outs l m) s) i)) (dirX l m (atI (atL (outs l m) s) j)):=by
 have hok:=pln_lst hp
 have hso:=(outs_so hok hs).1 i j (Nat.zero_le _) hij hj
 obtain⟨a,a1,a2,a3⟩:=(outs_mem hok hs).1 (at_mem (show i<(atL (outs l m) s).length by omega))
 obtain⟨b,b1,b2,b3⟩:=(outs_mem hok hs).1 (at_mem hj)
 have hne:a≠b:=fun e=>by
  have:=nodup_at (outs_nodup hok hs) (show i<_ by omega) hj (by rw [a2,b2,e])
  omega
 have hM:=(lst_ok hok).1
 have fa:=dts_fr (l:=l) hM a1
 have fb:=dts_fr (l:=l) hM b1
 have na:=dts_nz hok a1
 have nb:=dts_nz hok b1
 unfold leD at hso
 rw [a2,b2] at hso ⊢
 show bef (dirD (atD (dts l m m.length) ((a:Int)).toNat)) (dirD (atD (dts l m m.length) ((b:Int)).toNat))
 rw [Int.toNat_natCast,Int.toNat_natCast]
 rcases bef_total na nb (fun hr=>hne (ray_one hp a1 b1 (by omega) hr)) with h|h
 ·exact h
 ·exfalso
  rw [(ltD_bef _ _ _).2 (by rw [Int.toNat_natCast,Int.toNat_natCast];exact h)] at hso
  cases hso
theorem nx_soon (hp:plnB l m n=true){d:Int}(h0:0≤d)(h1:d<(2*m.length:Nat)){x:Nat}(hx:x<2*m.length)(hfx:(atD (dts l m m.length) x).fr=(atD (dts l m m.length) d.toNat).tt)(hne:(x:Int)≠nxI (dts l m m.length) (outs l m) d) :
  soon (dirX l m (backI d)) (dirX l m (nxI (dts l m m.length) (outs l m) d)) (dirX l m x):=by
 have hok:=pln_lst hp
 obtain⟨s,a,e1,hs,e2,ha,e3,e4,e5⟩:=nx_facts hok h0 h1
 have hb:=back_in (E:=m.length) h0 h1
 have hmem:(x:Int)∈atL (outs l m) s:=(outs_mem hok hs).2 ⟨x,hx,rfl,by rw [hfx,e1]⟩
 obtain⟨q,hq,hqe⟩:=List.getElem_of_mem hmem
 rw [← atI_eq hq] at hqe
 have hord:∀ {i j:Nat},i<j→j<(atL (outs l m) s).length→bef (dirX l m (atI (atL (outs l m) s) i)) (dirX l m (atI (atL (outs l m) s) j)):=fun hij hj=>outs_bef hp hs hij hj
 have hnz:∀ {i:Nat},i<(atL (outs l m) s).length→nz (dirX l m (atI (atL (outs l m) s) i)):=fun {i} hi=>by
  obtain⟨c,c1,c2,_⟩:=(outs_mem hok hs).1 (at_mem hi)
  rw [c2]
  show nz (dirD (atD (dts l m m.length) ((c:Int)).toNat))
  rw [Int.toNat_natCast]
  exact dts_nz hok c1
 rw [e5] at hne ⊢
 rw [← e4,← hqe]
 rw [← hqe] at hne
 generalize atL (outs l m) s=L at *
 by_cases ha0:a=0
 ·rw [if_pos ha0] at hne ⊢
  have hqn:q≠L.length - 1:=fun e=>hne (by rw [e])
  subst ha0
  by_cases hq0:q=0
  ·rw [hq0]
   exact soon_self (hnz ha) (hnz (by omega)) (.inl (hord (by omega) (by omega)))
  ·exact three (hnz ha) (hnz (by omega)) (hnz hq) (.inl ⟨hord (by omega) hq,hord (by omega) (by omega),hord (by omega) (by omega)⟩)
 ·rw [if_neg ha0] at hne ⊢
  have hqn:q≠a - 1:=fun e=>hne (by rw [e])
  by_cases hqa:q=a
  ·rw [hqa]
   exact soon_self (hnz ha) (hnz (by omega)) (.inr (hord (by omega) ha))
  ·rcases Nat.lt_or_ge q a with h|h
   ·exact three (hnz ha) (hnz (by omega)) (hnz hq) (.inr (.inr ⟨hord (by omega) (by omega),hord (by omega) ha,hord (by omega) ha⟩))
   ·exact three (hnz ha) (hnz (by omega)) (hnz hq) (.inr (.inl ⟨hord (by omega) ha,hord (by omega) hq,hord (by omega) hq⟩))
theorem from_dt (l:List Pt)(m:List Ed){d:Int}(h0:0≤d)(h1:d<(2*m.length:Nat)):fromI m d=(atD (dts l m m.length) d.toNat).fr∧toI m d=(atD (dts l m m.length) d.toNat).tt:=by
 have key:∀ {e:Int},0≤e→e<(2*m.length:Nat)→fromI m e=(atD (dts l m m.length) e.toNat).fr:=fun {e} he0 he1=>by
  unfold fromI
  rcases dts_one (l:=l) (m:=m) (N:=m.length) (i:=e.toNat) (by omega) with ⟨x,h⟩|⟨x,h⟩
  ·rw [h,if_pos (by omega),show (e / 2).toNat=e.toNat / 2 by omega];rfl
  ·rw [h,if_neg (by omega),show (e / 2).toNat=e.toNat / 2 by omega];rfl
 refine⟨key h0 h1,?_⟩
 have hb:=back_in (E:=m.length) h0 h1
 unfold toI
 rw [show d+1 - 2*(d % 2)=backI d by unfold backI;split <;> omega,key hb.1 hb.2]
 exact (back_dt l m h0 h1).1
theorem fol_nx (hp:plnB l m n=true){d:Int}(h0:0≤d)(h1:d<(2*m.length:Nat)){k:List Bool}(hk:∀ i,i<2*m.length→atB k i=true):folR l m k d (2*m.length)=nxI (dts l m m.length) (outs l m) d:=by
 have hok:=pln_lst hp
 have hM:=(lst_ok hok).1
 have hn:=nx_in hok h0 h1
 have hfd:=from_dt l m h0 h1
 have hbd:=back_dt l m h0 h1
 have hb:=back_in (E:=m.length) h0 h1
 have hfr:=dts_fr (l:=l) hM (i:=d.toNat) (by omega)
 obtain⟨Y,hY⟩:∃ Y:Nat,nxI (dts l m m.length) (outs l m) d=Y:=⟨(nxI (dts l m m.length) (outs l m) d).toNat,by omega⟩
 have hYl:Y<2*m.length:=by omega
 have hYf:=dts_fr (l:=l) hM hYl
 have hfY:(atD (dts l m m.length) Y).fr=(atD (dts l m m.length) d.toNat).tt:=by
  have:=hn.2.2
  rw [hY,Int.toNat_natCast] at this
  omega
 have hv:∀ {x:Nat},x<2*m.length→(atD (dts l m m.length) x).fr=(atD (dts l m m.length) d.toNat).tt→sub2 (ptI l (toI m x)) (ptI l (toI m d))=dirX l m x:=fun {x} hx hf=>by
  have e:=from_dt l m (d:=(x:Int)) (by omega) (by omega)
  have e2:=dir_pt l m hx
  rw [hf] at e2
  show _=dirD (atD (dts l m m.length) ((x:Int)).toNat)
  rw [Int.toNat_natCast,e2,e.2,hfd.2,Int.toNat_natCast]
 have hu:sub2 (ptI l (fromI m d)) (ptI l (toI m d))=dirX l m (backI d):=by
  have e2:=dir_pt l m (i:=(backI d).toNat) (by omega)
  rw [hbd.1,hbd.2.1] at e2
  rw [hfd.1,hfd.2]
  exact e2.symm
 have hc:∀ {x:Nat},x<2*m.length→(fromI m x=toI m d↔(atD (dts l m m.length) x).fr=(atD (dts l m m.length) d.toNat).tt):=fun {x} hx=>by
  rw [(from_dt l m (d:=(x:Int)) (by omega) (by omega)).1,hfd.2,Int.toNat_natCast]
 have hsoon:∀ {x:Nat},x<2*m.length→(atD (dts l m m.length) x).fr=(atD (dts l m m.length) d.toNat).tt→x≠Y→soonI (ptI l (toI m d)) (ptI l (fromI m d)) (ptI l (toI m Y)) (ptI l (toI m x))=true∧soonI (ptI l (toI m d)) (ptI l (fromI m d)) (ptI l (toI m x)) (ptI l (toI m Y))=false:=fun {x} hx hf hne=>by
  have h:=nx_soon hp h0 h1 hx hf (by rw [hY];omega)
  rw [hY] at h
  refine⟨(soon_iff _ _ _ _).2 (by rw [hu,hv hYl hfY,hv hx hf];exact h),?_⟩
  cases hq:soonI (ptI l (toI m d)) (ptI l (fromI m d)) (ptI l (toI m x)) (ptI l (toI m Y)) with
  |false=>rfl
  |true =>
   have:=(soon_iff _ _ _ _).1 hq
   rw [hu,hv hYl hfY,hv hx hf] at this
   exact absurd this (soon_asymm h)
 have key:∀ j,j≤2*m.length→(Y<j→folR l m k d j=Y)∧(j≤Y→folR l m k d j = -1∨∃ c:Nat,c<j∧folR l m k d j=c∧(atD (dts l m m.length) c).fr=(atD (dts l m m.length) d.toNat).tt):=by
  intro j
  induction j with
  |zero=>exact fun _=>⟨fun h=>by omega,fun _=>.inl rfl⟩
  |succ j ih =>
   intro hj
   obtain⟨i1,i2⟩:=ih (by omega)
   rcases Nat.lt_trichotomy j Y with h|h|h
   ·refine⟨fun h'=>by omega,fun _=>?_⟩
    unfold folR
    split
    ·rename_i hc'
     exact .inr ⟨j,Nat.lt_succ_self j,rfl,(hc (by omega)).1 hc'.1.2⟩
    ·rcases i2 (by omega) with e|⟨c,c1,c2,c3⟩
     ·exact .inl e
     ·exact .inr ⟨c,by omega,c2,c3⟩
   ·subst h
    refine⟨fun _=>?_,fun h'=>by omega⟩
    refine folT ⟨⟨hk j hYl,(hc hYl).2 hfY⟩,?_⟩
    rcases i2 (Nat.le_refl _) with e|⟨c,c1,c2,c3⟩
    ·exact .inl (by omega)
    ·rw [c2]
     exact .inr (hsoon (by omega) c3 (by omega)).1
   ·refine⟨fun _=>?_,fun h'=>by omega⟩
    rw [folK (fun hh=>?_),i1 h]
    obtain⟨⟨_,q1⟩,q2⟩:=hh
    rw [i1 h] at q2
    rcases q2 with q2|q2
    ·omega
    ·rw [(hsoon (by omega) ((hc (by omega)).1 q1) (by omega)).2] at q2
     cases q2
 rw [(key _ (Nat.le_refl _)).1 hYl,hY]
end
end Go.Aw
end

noncomputable section
namespace Go.Aw
set_option maxRecDepth 100000
theorem setF_at (of w:List Int)(fc:Int)(hw:∀ t,t<w.length→(atI w t).toNat<of.length)(i:Nat):∀ k,k≤w.length→((∃ t,t<k∧(atI w t).toNat=i)→atI (setF of w fc k) i=fc)∧((¬ ∃ t,t<k∧(atI w t).toNat=i)→atI (setF of w fc k) i=atI of i)
 |0,_=>⟨fun ⟨t,h,_⟩=>by omega,fun _=>rfl⟩
 |k+1,hk=>by
  obtain⟨i1,i2⟩:=setF_at of w fc hw i k (by omega)
  have hs:=set_at (setF of w fc k) (atI w k).toNat fc i (by rw [setF_len];exact hw k (by omega))
  unfold setF
  rw [hs]
  by_cases e:i=(atI w k).toNat
  ·rw [if_pos e]
   exact⟨fun _=>rfl,fun h=>absurd ⟨k,Nat.lt_succ_self k,e.symm⟩ h⟩
  ·rw [if_neg e]
   refine⟨fun ⟨t,h1,h2⟩=>i1 ⟨t,?_,h2⟩,fun h=>i2 fun ⟨t,h1,h2⟩=>h ⟨t,by omega,h2⟩⟩
   rcases Nat.lt_or_ge t k with h|h
   ·exact h
   ·exact absurd (by rw [← h2,show t=k by omega]) e
theorem setB_at (L:List Bool)(x:Nat)(v:Bool)(i:Nat)(hx:x<L.length):atB (L.set x v) i=if i=x then v else atB L i:=by
 unfold atB
 rw [List.getD_eq_getElem?_getD,List.getD_eq_getElem?_getD,List.getElem?_set]
 by_cases h:x=i
 ·subst h;simp [hx]
 ·rw [if_neg h,if_neg (fun e=>h e.symm)]
theorem setT_at (s:List Bool)(w:List Int)(hw:∀ t,t<w.length→(atI w t).toNat<s.length)(i:Nat):∀ k,k≤w.length→((∃ t,t<k∧(atI w t).toNat=i)→atB (setT s w k) i=true)∧((¬ ∃ t,t<k∧(atI w t).toNat=i)→atB (setT s w k) i=atB s i)
 |0,_=>⟨fun ⟨t,h,_⟩=>by omega,fun _=>rfl⟩
 |k+1,hk=>by
  obtain⟨i1,i2⟩:=setT_at s w hw i k (by omega)
  have hs:=setB_at (setT s w k) (atI w k).toNat true i (by rw [setT_len];exact hw k (by omega))
  unfold setT
  rw [hs]
  by_cases e:i=(atI w k).toNat
  ·rw [if_pos e]
   exact⟨fun _=>rfl,fun h=>absurd ⟨k,Nat.lt_succ_self k,e.symm⟩ h⟩
  ·rw [if_neg e]
   refine⟨fun ⟨t,h1,h2⟩=>i1 ⟨t,?_,h2⟩,fun h=>i2 fun ⟨t,h1,h2⟩=>h ⟨t,by omega,h2⟩⟩
   rcases Nat.lt_or_ge t k with h|h
   ·exact h
   ·exact absurd (by rw [← h2,show t=k by omega]) e
theorem rndN_eq {f:Int→Int}{d:Int}{N T:Nat}:∀ {k i:Nat},i≤T→T≤i+k→(∀ t,i≤t→t<T→rndGo f d N t=true)→rndGo f d N T=false→rndN f d N k i=T
 |0,i,h1,h2,_,_=>by unfold rndN;omega
 |k+1,i,h1,h2,h3,h4=>by
  unfold rndN
  by_cases e:i=T
  ·rw [e,h4];rfl
  ·rw [h3 i (Nat.le_refl _) (by omega),if_pos rfl]
   exact rndN_eq (by omega) (by omega) (fun t a b=>h3 t (by omega) b) h4
section
variable {l:List Pt}{m:List Ed}{n:Int}
theorem tru_at {E i:Nat}(h:i<E):atB (List.replicate E true) i=true:=by
 unfold atB
 rw [List.getD_eq_getElem?_getD,List.getElem?_replicate,if_pos h]
 rfl
theorem wk_round (hp:plnB l m n=true){d:Nat}(hd:d<2*m.length):roundI l m (List.replicate (2*m.length) true) d=wkD (dts l m m.length) (outs l m) d:=by
 have hok:=pln_lst hp
 have hin:=it_in hok (d:=(d:Int)) (by omega) (by omega)
 have hx:∀ i,rndX (folF l m (List.replicate (2*m.length) true)) d i=itN (dts l m m.length) (outs l m) d (i+1):=by
  intro i
  induction i with
  |zero=>exact fol_nx hp (by omega) (by omega) (fun i hi=>tru_at hi)
  |succ i ih =>
   unfold rndX
   rw [ih]
   have:=hin (i+1)
   exact fol_nx hp this.1 this.2 (fun i hi=>tru_at hi)
 have hw:=List.all_eq_true.1 (wks_ok hok) d (List.mem_range.2 (by rw [dts_len];exact hd))
 have hw:=of_decide_eq_true hw
 obtain⟨p1,p2,p3⟩:=perI_low (dts l m m.length) (outs l m) d (dts l m m.length).length 1
 unfold wkD
 unfold perD at hw ⊢
 generalize perI (dts l m m.length) (outs l m) d (dts l m m.length).length 1=T at *
 rw [dts_len] at p2
 have hN:rndN (folF l m (List.replicate (2*m.length) true)) d (2*m.length) (2*m.length+2) 0=T - 1:=by
  refine rndN_eq (Nat.zero_le _) (by omega) (fun t _ ht=>?_) ?_
  ·unfold rndGo
   rw [hx]
   have a:=hin (t+1)
   have b:=p3 (t+1) (by omega) (by omega)
   rw [decide_eq_false b,decide_eq_true a.1,decide_eq_true (show t≤2*m.length by omega)]
   rfl
  ·unfold rndGo
   rw [hx,show T - 1+1=T by omega,hw,decide_eq_true rfl]
   rfl
 unfold roundI
 rw [hN]
 unfold rndO
 apply List.ext_getElem?
 intro i
 cases i with
 |zero =>
  rw [List.getElem?_cons_zero,List.getElem?_map,List.getElem?_range (by omega)]
  rfl
 |succ i =>
  rw [List.getElem?_cons_succ,List.getElem?_map,List.getElem?_map]
  by_cases h:i<T - 1
  ·rw [List.getElem?_range h,List.getElem?_range (by omega)]
   simp only [Option.map_some]
   rw [hx]
  ·rw [List.getElem?_eq_none (by rw [List.length_range];omega),List.getElem?_eq_none (by rw [List.length_range];omega)]
   rfl
theorem area_eq (l:List Pt)(m:List Ed){w:List Int}(hw:inR (dts l m m.length) w=true):∀ k,k≤w.length→areaN l m w k=arI l (dts l m m.length) w k
 |0,_=>rfl
 |k+1,h=>by
  unfold areaN arI
  rw [area_eq l m hw k (by omega)]
  have hk:=inR_at hw (i:=k) (by omega)
  rw [dts_len] at hk
  have:=from_dt l m hk.1 (by omega)
  unfold partI crI ptI
  rw [this.1,this.2]
structure Fre (m:List Ed) (s:Fst) (t:Nst):Prop where
 len:s.of.length=2*m.length
 seen:t.seen.length=2*m.length
 face:t.face.length=2*m.length
 of:∀ i,i<2*m.length→(atB t.seen i=true∧0≤atI s.of i∧atI s.of i=atI t.face i)∨(atB t.seen i=false∧atI s.of i<0)
 many:s.faces=t.many
 low:0≤t.many
 out:s.outside=t.out
 ok:s.ok=!t.flat
theorem fre_step (hp:plnB l m n=true){s:Fst}{t:Nst}(h:Fre m s t){d:Nat}(hd:d<2*m.length):Fre m (fcStep l m s d) (nmStep l (dts l m m.length) (outs l m) t d)∧atB (nmStep l (dts l m m.length) (outs l m) t d).seen d=true∧∀ i,atB t.seen i=true→i<2*m.length→atB (nmStep l (dts l m m.length) (outs l m) t d).seen i=true:=by
 have hok:=pln_lst hp
 unfold fcStep nmStep
 rcases h.of d hd with ⟨h1,h2,h3⟩|⟨h1,h2⟩
 ·rw [if_pos h2,if_pos h1]
  exact⟨h,h1,fun i hi _=>hi⟩
 ·rw [if_neg (by omega),if_neg (by rw [h1];decide)]
  simp only
  rw [wk_round hp hd]
  have w:=wkD_in (l:=l) (web_ok hok) (d:=d) (by rw [dts_len];exact hd)
  have hfirst:atI (wkD (dts l m m.length) (outs l m) d) 0=d:=by
   unfold wkD
   unfold atI
   rw [List.getD_eq_getElem?_getD,List.getElem?_map,List.getElem?_range (by
    have:=(perI_low (dts l m m.length) (outs l m) d (dts l m m.length).length 1).1
    unfold perD;omega)]
   rfl
  generalize wkD (dts l m m.length) (outs l m) d=W at w hfirst ⊢
  rw [area_eq l m w.1 _ (Nat.le_refl _),h.many,h.out,h.ok]
  generalize arI l (dts l m m.length) W W.length=A
  have hr:∀ t,t<W.length→(atI W t).toNat<2*m.length:=fun t ht=>by
   have:=inR_at w.1 (i:=t) ht
   rw [dts_len] at this
   omega
  have hset:∀ fc:Int,0≤fc→∀ i,i<2*m.length→(atB (setT t.seen W W.length) i=true∧0≤atI (setF s.of W fc W.length) i∧atI (setF s.of W fc W.length) i=atI (setF t.face W fc W.length) i)∨(atB (setT t.seen W W.length) i=false∧atI (setF s.of W fc W.length) i<0):=fun fc hfc i hi=>by
   obtain⟨a1,a2⟩:=setF_at s.of W fc (by rw [h.len];exact hr) i _ (Nat.le_refl _)
   obtain⟨b1,b2⟩:=setF_at t.face W fc (by rw [h.face];exact hr) i _ (Nat.le_refl _)
   obtain⟨c1,c2⟩:=setT_at t.seen W (by rw [h.seen];exact hr) i _ (Nat.le_refl _)
   by_cases e:∃ k,k<W.length∧(atI W k).toNat=i
   ·rw [a1 e,b1 e,c1 e]
    exact .inl ⟨rfl,hfc,rfl⟩
   ·rw [a2 e,b2 e,c2 e]
    exact h.of i hi
  refine⟨⟨by rw [setF_len];exact h.len,by rw [setT_len];exact h.seen,by rw [setF_len];exact h.face,?_,rfl,?_,?_,?_⟩,?_,?_⟩
  ·have:=h.low
   by_cases hA:0<A
   ·simp only [if_pos hA];exact hset _ (by omega)
   ·simp only [if_neg hA];exact hset _ (by omega)
  ·have:=h.low
   show 0≤if 0<A then t.many+1 else t.many
   split <;> omega
  ·show (if A<0 then t.out+1 else t.out)=if 0<A then t.out else if A<0 then t.out+1 else t.out
   split <;> split <;> (first|rfl|omega)
  ·show (if A=0 then false else !t.flat)=!(if 0<A then t.flat else if A<0 then t.flat else true)
   by_cases hA:0<A
   ·rw [if_pos hA,if_neg (by omega)]
   ·by_cases hA2:A<0
    ·rw [if_neg hA,if_pos hA2,if_neg (by omega)]
    ·rw [if_neg hA,if_neg hA2,if_pos (by omega)];rfl
  ·exact (setT_at t.seen W (by rw [h.seen];exact hr) d _ (Nat.le_refl _)).1 ⟨0,by omega,by rw [hfirst];rfl⟩
  ·intro i hi hi2
   obtain⟨c1,c2⟩:=setT_at t.seen W (by rw [h.seen];exact hr) i _ (Nat.le_refl _)
   by_cases e:∃ k,k<W.length∧(atI W k).toNat=i
   ·exact c1 e
   ·show atB (setT t.seen W W.length) i=true
    rw [c2 e];exact hi
theorem fre_all (hp:plnB l m n=true):∀ d,d≤2*m.length→Fre m (fcAll l m d) (nmAll l (dts l m m.length) (outs l m) d)∧∀ i,i<d→atB (nmAll l (dts l m m.length) (outs l m) d).seen i=true
 |0,_=>by
  refine⟨⟨by simp [fcAll],by simp [nmAll,dts_len],by simp [nmAll,dts_len],fun i hi=>.inr ?_,rfl,Int.le_refl 0,rfl,rfl⟩,fun i hi=>by omega⟩
  unfold fcAll nmAll atB atI
  rw [List.getD_eq_getElem?_getD,List.getD_eq_getElem?_getD,List.getElem?_replicate,List.getElem?_replicate,dts_len,if_pos hi,if_pos hi]
  exact⟨rfl,by decide⟩
 |d+1,h=>by
  obtain⟨i1,i2⟩:=fre_all hp d (by omega)
  obtain⟨a1,a2,a3⟩:=fre_step hp i1 (d:=d) (by omega)
  refine⟨a1,fun i hi=>?_⟩
  by_cases e:i=d
  ·rw [e];exact a2
  ·exact a3 i (i2 i (by omega)) (by omega)
theorem allN_congr {f g:Nat→Bool}{n:Nat}(h:∀ i,i<n→f i=g i):allN f n=allN g n:=by
 rw [Bool.eq_iff_iff]
 exact⟨fun a=>allN_true fun i hi=>by rw [← h i hi];exact allN_at a hi,fun a=>allN_true fun i hi=>by rw [h i hi];exact allN_at a hi⟩
theorem num_fac (hp:plnB l m n=true):(nmOk (numP l m)&&(decide ((numP l m).many=n)&&allN (facB l m) m.length))=(fcOk (facedI l m)&&(decide ((facedI l m).faces=n)&&allN (faB m (facedI l m).of) m.length)):=by
 obtain⟨_,_,_,_,_,hn,_⟩:=lst_ok (pln_lst hp)
 obtain⟨h1,h2⟩:=fre_all hp (2*m.length) (Nat.le_refl _)
 have e:numP l m=nmAll l (dts l m m.length) (outs l m) (2*m.length):=by
  unfold numP nmD
  rw [dts_len]
 have hof:∀ i,i<2*m.length→atI (facedI l m).of i=atI (numP l m).face i:=fun i hi=>by
  rw [e]
  rcases h1.of i hi with ⟨_,_,h⟩|⟨h,_⟩
  ·exact h
  ·rw [h2 i hi] at h;cases h
 have hall:allN (facB l m) m.length=allN (faB m (facedI l m).of) m.length:=by
  refine allN_congr fun i hi=>?_
  unfold facB faB
  rw [hof (2*i) (by omega),hof (2*i+1) (by omega)]
 rw [hall]
 unfold nmOk fcOk
 have k1:(facedI l m).faces=(numP l m).many:=by rw [e];exact h1.many
 have k2:(facedI l m).outside=(numP l m).out:=by rw [e];exact h1.out
 have k3:(facedI l m).ok=!(numP l m).flat:=by rw [e];exact h1.ok
 rw [k1,k2,k3]
 by_cases hc:(numP l m).many=n
 ·rw [decide_eq_true hc,decide_eq_true (show 1≤(numP l m).many by omega)]
  cases decide ((numP l m).out=1) <;> cases (numP l m).flat <;> rfl
 ·rw [decide_eq_false hc]
  simp
end
end Go.Aw
end

noncomputable section
namespace Go.Aw
set_option maxRecDepth 100000
def LeB (S T:List Bool):Prop:=∀ i,atB S i=true→atB T i=true
theorem LeB.refl (S:List Bool):LeB S S:=fun _ h=>h
theorem LeB.trans {A B C:List Bool}(h1:LeB A B)(h2:LeB B C):LeB A C:=fun i h=>h2 i (h1 i h)
theorem LeB_cnt:∀ {S T:List Bool},T.length=S.length→LeB S T→cntF T≤cntF S∧(cntF T=cntF S→T=S)
 |[],[],_,_=>⟨Nat.le_refl _,fun _=>rfl⟩
 |[],_::_,h,_=>by simp at h
 |_::_,[],h,_=>by simp at h
 |a::S,b::T,hl,h=>by
  obtain⟨i1,i2⟩:=LeB_cnt (S:=S) (T:=T) (by simpa using hl) fun i hi=>h (i+1) hi
  have h0:a=true→b=true:=h 0
  unfold cntF at *
  simp only [List.countP_cons]
  cases a <;> cases b <;> simp at h0 ⊢
  ·exact⟨by omega,fun e=>i2 (by omega)⟩
  ·omega
  ·exact⟨i1,i2⟩
theorem atB_false {S:List Bool}{i:Nat}(h:S.length≤i):atB S i=false:=by
 unfold atB
 rw [List.getD_eq_getElem?_getD,List.getElem?_eq_none h]
 rfl
theorem setB_le (S:List Bool)(p:Nat):LeB S (S.set p true):=fun i hi=>by
 by_cases h:p<S.length
 ·rw [setB_at _ _ _ _ h]
  split
  ·rfl
  ·exact hi
 ·rw [List.set_eq_of_length_le (by omega)];exact hi
section
variable {D:List Dt}{ls:List (List Int)}{nP:Nat}
theorem vis_facts (hL:∀ q,∀ x∈atL ls q,ttI D x<nP):∀ (n:Nat) (S:List Bool) (p:Nat),S.length=nP→p<nP→atB S p=false→cntF S≤n →
  LeB S (vis D ls n S p)∧atB (vis D ls n S p) p=true∧∀ q,atB (vis D ls n S p) q=true→atB S q=false→∀ x∈atL ls q,atB (vis D ls n S p) (ttI D x)=true
 |0,S,p,h1,h2,h3,h4=>by have:=cnt_pos (by omega) h3;omega
 |n+1,S,p,h1,h2,h3,h4=>by
  have hcs:=cnt_set (S:=S) (p:=p) (by omega) h3
  have key:∀ (L:List Int) (M:List Bool),M.length=nP→cntF M≤n→(∀ x∈L,ttI D x<nP) →
    LeB M (L.foldl (fun S x=>if atB S (ttI D x)=true then S else vis D ls n S (ttI D x)) M)∧(∀ x∈L,atB (L.foldl (fun S x=>if atB S (ttI D x)=true then S else vis D ls n S (ttI D x)) M) (ttI D x)=true) ∧
    ∀ q,atB (L.foldl (fun S x=>if atB S (ttI D x)=true then S else vis D ls n S (ttI D x)) M) q=true→atB M q=false→∀ x∈atL ls q,atB (L.foldl (fun S x=>if atB S (ttI D x)=true then S else vis D ls n S (ttI D x)) M) (ttI D x)=true:=by
   intro L
   induction L with
   |nil=>exact fun M _ _ _=>⟨LeB.refl M,fun x hx=>(by cases hx),fun q hq hf=>by rw [List.foldl_nil] at hq;rw [hq] at hf;cases hf⟩
   |cons y r ih =>
    intro M hM hc hr
    rw [List.foldl_cons]
    by_cases hy:atB M (ttI D y)=true
    ·rw [if_pos hy]
     obtain⟨k1,k2,k3⟩:=ih M hM hc fun x hx=>hr x (.tail _ hx)
     refine⟨k1,fun x hx=>?_,k3⟩
     rcases List.mem_cons.1 hx with rfl|hx
     ·exact k1 _ hy
     ·exact k2 x hx
    ·rw [if_neg hy]
     have hyf:atB M (ttI D y)=false:=by simpa using hy
     obtain⟨v1,v2,v3⟩:=vis_facts hL n M (ttI D y) hM (hr y (.head _)) hyf hc
     obtain⟨c1,c2⟩:=vis_le D ls n M (ttI D y)
     obtain⟨k1,k2,k3⟩:=ih (vis D ls n M (ttI D y)) (by omega) (by omega) fun x hx=>hr x (.tail _ hx)
     refine⟨v1.trans k1,fun x hx=>?_,fun q hq hf x hx=>?_⟩
     ·rcases List.mem_cons.1 hx with rfl|hx
      ·exact k1 _ v2
      ·exact k2 x hx
     ·cases hv:atB (vis D ls n M (ttI D y)) q with
      |true=>exact k1 _ (v3 q hv hf x hx)
      |false=>exact k3 q hq hv x hx
  obtain⟨k1,k2,k3⟩:=key (atL ls p) (S.set p true) (by rw [List.length_set];exact h1) (by omega) (hL p)
  have hp0:atB (S.set p true) p=true:=by rw [setB_at _ _ _ _ (by omega),if_pos rfl]
  show LeB S ((atL ls p).foldl _ (S.set p true))∧atB ((atL ls p).foldl _ (S.set p true)) p=true∧∀ q,atB ((atL ls p).foldl _ (S.set p true)) q=true→_
  refine⟨(setB_le S p).trans k1,k1 _ hp0,fun q hq hf x hx=>?_⟩
  by_cases e:q=p
  ·rw [e] at hx
   exact k2 x hx
  ·exact k3 q hq (by rw [setB_at _ _ _ _ (by omega),if_neg e];exact hf) x hx
theorem vis_sub {Z:Nat→Prop}(hZ:∀ q,Z q→∀ x∈atL ls q,Z (ttI D x)):∀ (n:Nat) (S:List Bool) (p:Nat),(∀ i,atB S i=true→Z i)→Z p→∀ i,atB (vis D ls n S p) i=true→Z i
 |0,S,p,h1,h2=>h1
 |n+1,S,p,h1,h2=>by
  have key:∀ (L:List Int) (M:List Bool),(∀ i,atB M i=true→Z i)→(∀ x∈L,Z (ttI D x))→∀ i,atB (L.foldl (fun S x=>if atB S (ttI D x)=true then S else vis D ls n S (ttI D x)) M) i=true→Z i:=by
   intro L
   induction L with
   |nil=>exact fun M h _=>h
   |cons y r ih =>
    intro M hM hr
    rw [List.foldl_cons]
    split
    ·exact ih M hM fun x hx=>hr x (.tail _ hx)
    ·exact ih _ (vis_sub hZ n M (ttI D y) hM (hr y (.head _))) fun x hx=>hr x (.tail _ hx)
  exact key (atL ls p) (S.set p true) (fun i hi=>by
   rcases atB_set _ _ _ hi with e|h
   ·rw [e];exact h2
   ·exact h1 i h) (hZ p h2)
end
theorem relE_le (s:List Bool)(e:Ed):LeB s (relE s e):=by
 unfold relE
 split
 ·exact (setB_le s _).trans (setB_le _ _)
 ·exact LeB.refl s
theorem relN_le (m:List Ed)(s:List Bool):∀ {i j:Nat},i≤j→LeB (relN m s i) (relN m s j)
 |i,0,h=>by rw [show i=0 by omega];exact LeB.refl _
 |i,j+1,h=>by
  by_cases e:i=j+1
  ·rw [e];exact LeB.refl _
  ·exact (relN_le m s (show i≤j by omega)).trans (relE_le _ _)
theorem conN_stable (l:List Pt)(m:List Ed):∀ k,(relN m (conN l m k) m.length=conN l m k)∨cntF (conN l m k)+k≤cntF (conN l m 0)
 |0=>.inr (Nat.le_refl _)
 |k+1=>by
  rcases conN_stable l m k with h|h
  ·left
   have:conN l m (k+1)=conN l m k:=h
   rw [this]
   exact h
  ·have hl:=relN_len m (conN l m k) m.length
   obtain⟨c1,c2⟩:=LeB_cnt hl (relN_le m (conN l m k) (Nat.zero_le _))
   by_cases e:cntF (relN m (conN l m k) m.length)=cntF (conN l m k)
   ·left
    have:conN l m (k+1)=conN l m k:=c2 e
    rw [this]
    exact c2 e
   ·right
    show cntF (relN m (conN l m k) m.length)+(k+1)≤_
    have c1':cntF (relN m (conN l m k) m.length)≤cntF (conN l m k):=c1
    omega
theorem cnt_ini {n:Nat}(h:1≤n):cntF (iniB n)+1≤n:=by
 have h1:=iniB_len n
 have h2:cntF (iniB n)≤(iniB n).length:=List.countP_le_length
 rcases Nat.lt_or_ge (cntF (iniB n)) n with h3|h3
 ·omega
 ·exfalso
  have h4:atB (iniB n) 0=true:=by
   unfold iniB atB
   rw [List.getD_eq_getElem?_getD,List.getElem?_map,List.getElem?_range (by omega)]
   rfl
  have h5:cntF (iniB n)=(iniB n).length:=by omega
  have h6:=(List.countP_eq_length.1 h5) _ (List.getElem_mem (l:=iniB n) (n:=0) (by omega))
  rw [atB_eq (by omega)] at h4
  rw [h4] at h6
  cases h6
section
variable {l:List Pt}{m:List Ed}{n:Int}
theorem con_eq (hok:lstB l m n=true):conP l m=conI l m:=by
 obtain⟨hM,h3,h1l,h4,h6,_,_⟩:=lst_ok hok
 have hdt:∀ {i:Nat},i<2*m.length→0≤(atD (dts l m m.length) i).fr∧(atD (dts l m m.length) i).fr<l.length∧0≤(atD (dts l m m.length) i).tt∧(atD (dts l m m.length) i).tt<l.length:=fun {i} hi=>by
  have:=dts_fr (l:=l) hM hi
  omega
 have hls:∀ q,∀ x∈atL (outs l m) q,∃ i:Nat,i<2*m.length∧x=i∧(atD (dts l m m.length) i).fr.toNat=q∧q<l.length:=fun q x hx=>by
  by_cases hq:q<l.length
  ·obtain⟨i,a,b,c⟩:=(outs_mem hok hq).1 hx
   exact⟨i,a,b,c,hq⟩
  ·exfalso
   unfold atL at hx
   rw [List.getD_eq_getElem?_getD,List.getElem?_eq_none (by rw [outs_len];omega)] at hx
   cases hx
 have hL:∀ q,∀ x∈atL (outs l m) q,ttI (dts l m m.length) x<l.length:=fun q x hx=>by
  obtain⟨i,a,b,_,_⟩:=hls q x hx
  have:=hdt a
  unfold ttI
  rw [b,Int.toNat_natCast]
  omega
 have hS0:∀ i,atB (List.replicate (outs l m).length false) i=false:=fun i=>by
  unfold atB
  rw [List.getD_eq_getElem?_getD,List.getElem?_replicate]
  split <;> rfl
 have hcnt:cntF (List.replicate (outs l m).length false)≤1000:=by
  have:cntF (List.replicate (outs l m).length false)≤(List.replicate (outs l m).length false).length:=List.countP_le_length
  have e:=outs_len l m
  rw [List.length_replicate] at this
  omega
 obtain⟨v1,v2,v3⟩:=vis_facts (nP:=l.length) hL 1000 (List.replicate (outs l m).length false) 0 (by rw [List.length_replicate,outs_len]) (by omega) (hS0 0) hcnt
 have hlen:(reachI (dts l m m.length) (outs l m)).length=l.length:=by
  unfold reachI
  rw [(vis_le _ _ _ _ _).2,List.length_replicate,outs_len]
 have hR:∀ q,atB (reachI (dts l m m.length) (outs l m)) q=true→∀ x∈atL (outs l m) q,atB (reachI (dts l m m.length) (outs l m)) (ttI (dts l m m.length) x)=true:=fun q hq x hx=>v3 q hq (hS0 q) x hx
 have hedge:∀ {e:Nat},e<m.length→(2*e:Nat)<2*m.length∧((2*e:Nat):Int)∈atL (outs l m) (atE m e).a.toNat∧ttI (dts l m m.length) ((2*e:Nat):Int)=(atE m e).b.toNat∧((2*e+1:Nat):Int)∈atL (outs l m) (atE m e).b.toNat∧ttI (dts l m m.length) ((2*e+1:Nat):Int)=(atE m e).a.toNat:=fun {e} he=>by
  obtain⟨d1,d2⟩:=dts_at l m he
  have hE:=lst_eg hok he
  refine⟨by omega,(outs_mem hok (by omega)).2 ⟨2*e,by omega,rfl,by rw [d1];rfl⟩,?_,(outs_mem hok (by omega)).2 ⟨2*e+1,by omega,rfl,by rw [d2];rfl⟩,?_⟩
  ·unfold ttI;rw [Int.toNat_natCast,d1];rfl
  ·unfold ttI;rw [Int.toNat_natCast,d2];rfl
 have hcR:∀ {e:Nat},e<m.length→(atB (reachI (dts l m m.length) (outs l m)) (atE m e).a.toNat=true∨atB (reachI (dts l m m.length) (outs l m)) (atE m e).b.toNat=true)→atB (reachI (dts l m m.length) (outs l m)) (atE m e).a.toNat=true∧atB (reachI (dts l m m.length) (outs l m)) (atE m e).b.toNat=true:=fun {e} he h=>by
  obtain⟨_,a1,a2,a3,a4⟩:=hedge he
  rcases h with h|h
  ·exact⟨h,by rw [← a2];exact hR _ h _ a1⟩
  ·exact⟨by rw [← a4];exact hR _ h _ a3,h⟩
 have hsub:∀ k,LeB (conN l m k) (reachI (dts l m m.length) (outs l m)):=by
  intro k
  induction k with
  |zero =>
   intro i hi
   have:i=0:=by
    change atB (iniB l.length) i=true at hi
    by_cases hil:i<l.length
    ·unfold iniB atB at hi
     rw [List.getD_eq_getElem?_getD,List.getElem?_map,List.getElem?_range hil] at hi
     simp at hi
     exact hi
    ·rw [atB_false (by rw [iniB_len];omega)] at hi
     cases hi
   rw [this]
   exact v2
  |succ k ih =>
   have key:∀ j,j≤m.length→LeB (relN m (conN l m k) j) (reachI (dts l m m.length) (outs l m)):=by
    intro j
    induction j with
    |zero=>exact fun _=>ih
    |succ j jh =>
     intro hj i hi
     have jh:=jh (by omega)
     unfold relN relE at hi
     split at hi
     ·rename_i hc
      have hc:=hcR (e:=j) (by omega) (by
       rcases Bool.or_eq_true_iff.1 hc with hc|hc
       ·exact .inl (jh _ hc)
       ·exact .inr (jh _ hc))
      rcases atB_set _ _ _ hi with e|hi
      ·rw [e];exact hc.2
      ·rcases atB_set _ _ _ hi with e|hi
       ·rw [e];exact hc.1
       ·exact jh _ hi
     ·exact jh _ hi
   exact key m.length (Nat.le_refl _)
 have hst:relN m (conN l m l.length) m.length=conN l m l.length:=by
  rcases conN_stable l m l.length with h|h
  ·exact h
  ·exfalso
   have:=cnt_ini h1l
   have h2:cntF (conN l m l.length)+l.length≤cntF (iniB l.length):=h
   omega
 have hcC:∀ {e:Nat},e<m.length→(atB (conN l m l.length) (atE m e).a.toNat=true∨atB (conN l m l.length) (atE m e).b.toNat=true)→atB (conN l m l.length) (atE m e).a.toNat=true∧atB (conN l m l.length) (atE m e).b.toNat=true:=fun {e} he h=>by
  have hE:=lst_eg hok he
  have h1:=relN_le m (conN l m l.length) (Nat.zero_le e)
  have h2:=relN_le m (conN l m l.length) (show e+1≤m.length by omega)
  rw [hst] at h2
  have hlen':(relN m (conN l m l.length) e).length=l.length:=by rw [relN_len,conN_len]
  have h3:relN m (conN l m l.length) (e+1)=relE (relN m (conN l m l.length) e) (atE m e):=rfl
  have hc:(atB (relN m (conN l m l.length) e) (atE m e).a.toNat || atB (relN m (conN l m l.length) e) (atE m e).b.toNat)=true:=by
   rcases h with h|h
   ·rw [h1 _ h];rfl
   ·rw [h1 _ h,Bool.or_true]
  rw [h3,relE,if_pos hc] at h2
  exact⟨h2 _ (by rw [setB_at _ _ _ _ (by rw [List.length_set]; omega)]; split; · rfl
                 ·rw [setB_at _ _ _ _ (by omega),if_pos rfl]),h2 _ (by rw [setB_at _ _ _ _ (by rw [List.length_set];omega),if_pos rfl])⟩
 have hsup:LeB (reachI (dts l m m.length) (outs l m)) (conN l m l.length):=by
  refine vis_sub (Z:=fun i=>atB (conN l m l.length) i=true) (fun q hq x hx=>?_) 1000 _ 0 (fun i hi=>by rw [hS0] at hi;cases hi) ?_
  ·obtain⟨i,a,b,c,d⟩:=hls q x hx
   rw [b]
   show atB (conN l m l.length) (ttI (dts l m m.length) (i:Int))=true
   unfold ttI
   rw [Int.toNat_natCast]
   rcases dts_one (l:=l) (m:=m) a with ⟨_,h⟩|⟨_,h⟩
   ·rw [h] at c ⊢
    exact (hcC (e:=i / 2) (by omega) (.inl (by rw [show (atE m (i / 2)).a.toNat=q from c];exact hq))).2
   ·rw [h] at c ⊢
    exact (hcC (e:=i / 2) (by omega) (.inr (by rw [show (atE m (i / 2)).b.toNat=q from c];exact hq))).1
  ·have h0:LeB (conN l m 0) (conN l m l.length):=by
    have:∀ k,LeB (conN l m 0) (conN l m k):=by
     intro k
     induction k with
     |zero=>exact LeB.refl _
     |succ k ih=>exact ih.trans (relN_le m (conN l m k) (Nat.zero_le _))
    exact this _
   refine h0 0 ?_
   show atB (iniB l.length) 0=true
   unfold iniB atB
   rw [List.getD_eq_getElem?_getD,List.getElem?_map,List.getElem?_range (by omega)]
   rfl
 have hall:∀ {S:List Bool},S.length=l.length→(S.all id=true↔∀ i,i<l.length→atB S i=true):=fun {S} hS=>by
  rw [List.all_eq_true]
  constructor
  ·intro h i hi
   rw [atB_eq (by omega)]
   exact h _ (List.getElem_mem _)
  ·intro h b hb
   obtain⟨i,hi,rfl⟩:=List.getElem_of_mem hb
   rw [← atB_eq hi]
   exact h i (by omega)
 unfold conP conI
 rw [Bool.eq_iff_iff,hall hlen,hall (conN_len l m _)]
 exact⟨fun h i hi=>hsup i (h i hi),fun h i hi=>hsub _ i (h i hi)⟩
theorem val_eq (l:List Pt)(m:List Ed)(n:Int):opnB l m n=valI l m n:=by
 unfold opnB valI
 cases hp:plnB l m n with
 |false=>rfl
 |true=>rw [con_eq (pln_lst hp),num_fac hp]
end
end Go.Aw
end
