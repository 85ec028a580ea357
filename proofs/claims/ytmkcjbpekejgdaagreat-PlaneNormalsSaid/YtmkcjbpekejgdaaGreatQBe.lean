/-
  Parts of a proof. No condition.
-/
import Derived.Test.YtmkcjbpekejgdaaGreatQBd
set_option linter.unusedSimpArgs false
set_option linter.unusedVariables false
noncomputable section
namespace Go.Aw
def cyl (o:List Pq)(f k:Nat):List Pq:=(List.range k).map fun i=>cyc o (f+i)
theorem cyl_succ (o:List Pq)(f k:Nat):cyl o f (k+1)=cyl o f k++[cyc o (f+k)]:=by
 unfold cyl
 rw [List.range_succ,List.map_append]
 rfl
theorem lst_last (p:Pq)(A:List Pq)(x:Pq):lst p (A++[x])=x:=by rw [lst_app];rfl
theorem seg_kq {o:List Pq}(h:0<o.length)(f:Nat):∀ k,segI o f k=kq (cyc o (f+o.length - 1)) (cyl o f k) (cyc o (f+k))
 |0=>rfl
 |k+1=>by
  rw [segI_succ,seg_kq h f k,cyl_succ,kq_app]
  congr 1
  rw [keptO_cyc,kq,kq,List.append_nil]
  have e:lst (cyc o (f+o.length - 1)) (cyl o f k)=cyc o (f+k+o.length - 1):=by
   cases k with
   |zero=>rfl
   |succ k =>
    rw [cyl_succ,lst_last,show f+(k+1)+o.length - 1=f+k+o.length by omega,cyc_add]
  rw [e]
  show _=if crossI (cyc o (f+k+o.length - 1)) (cyc o (f+k)) (cyc o (f+(k+1)))=0 then [] else [cyc o (f+k)]
  rw [show f+(k+1)=f+k+1 by omega]
  simp only [Bool.not_eq_true',decide_eq_false_iff_not,turn_zero]
  by_cases g:crossI (cyc o (f+k+o.length - 1)) (cyc o (f+k)) (cyc o (f+k+1))=0
  ·rw [if_pos g,if_neg (fun h=>h g)]
  ·rw [if_neg g,if_pos g]
theorem cyl_turn {o:List Pq}{f:Nat}(hf:f<o.length):cyl o f o.length=turnI o f:=by
 have hl:=turnI_len o f (by omega)
 refine List.ext_getElem (by unfold cyl;simp [hl]) fun i h1 h2=>?_
 rw [← at2_eq h2,turnI_at hf (by omega)]
 simp only [cyl,List.getElem_map,List.getElem_range]
theorem seg_ker {o:List Pq}{f:Nat}(hf:f<o.length):segI o f o.length=ker (turnI o f):=by
 rw [seg_kq (by omega),cyl_turn hf]
 have hl:=turnI_len o f (by omega)
 cases hT:turnI o f with
 |nil=>rw [hT] at hl;simp at hl;omega
 |cons x r =>
  show kq _ (x::r) _=kq (lst x r) (x::r) x
  have e1:cyc o (f+o.length)=x:=by
   rw [cyc_add,← Nat.add_zero f,← turnI_at hf (by omega),hT]
   rfl
  have e2:cyc o (f+o.length - 1)=lst x r:=by
   have:lst x r=lst x (turnI o f):=by rw [hT];rfl
   rw [this,← cyl_turn hf]
   obtain⟨m,hm⟩:∃ m,o.length=m+1:=⟨o.length - 1,by omega⟩
   rw [hm,cyl_succ,lst_last]
   rfl
  rw [e1,e2]
theorem Simp.turn {o:List Pq}(h:Simp o)(f:Nat):Simp (turnI o f):=by
 unfold turnI
 refine Simp.rot ?_
 rw [List.take_append_drop]
 exact h
theorem ar_turn (o:List Pq)(f:Nat):ar (turnI o f)=ar o:=by
 unfold turnI
 rw [ar_rot,List.take_append_drop]
theorem dirI_simp {l:List Pq}(h:Simp l):Simp (dirI l):=by
 unfold dirI
 split
 ·exact h.rev
 ·exact h
theorem dirI_area {l:List Pq}(h:Simp l):0<ar (dirI l):=by
 have h3:=h.len
 have ha:=h.area
 unfold dirI
 rw [area_ar (by omega)]
 split
 ·rw [ar_rev];omega
 ·omega
theorem norR_ker {l:List Pq}(h:0<l.length):norR l=ker (turnI (dirI l) (leastI (dirI l) l.length)):=by
 unfold norR
 have hl:=dirI_len l
 have:=leastI_lt (dirI l) l.length
 have hs:=seg_ker (o:=dirI l) (f:=leastI (dirI l) l.length) (by omega)
 rw [hl] at hs
 exact hs
theorem norR_simp {l:List Pq}(h:Simp l):Simp (norR l)∧ar (norR l)=ar (dirI l)∧(ker (norR l)).length=(norR l).length:=by
 have h3:=h.len
 rw [norR_ker (by omega)]
 obtain⟨a,b,c⟩:=ker_simp _ _ rfl ((dirI_simp h).turn (leastI (dirI l) l.length))
 exact⟨a,by rw [b,ar_turn],c⟩
theorem norR_good {l:List Pq}(hg:goodP l)(hs:simpleP l):goodP (norR l)∧simpleP (norR l):=by
 have h:=simp_of hg hs
 have h200:=hg.2.1
 exact simple_of (norR_simp h).1 (norR_right hg) (Nat.le_trans (norR_len l) h200)
theorem polyE_yes {l:List Pq}(hg:goodP l)(hs:simpleP l):polyE l=0:=by rw [polyE_good hg,if_pos (simpleB_iff.2 hs)]
theorem dirI_self {l:List Pq}(h:0<l.length)(ha:0<ar l):dirI l=l:=dirI_pos (by rw [area_ar h];omega)
theorem turnI_zero (o:List Pq):turnI o 0=o:=by simp [turnI]
theorem least_first {o:List Pq}(h0:0<o.length)(hm:∀ k,0<k→k<o.length→key (at2 o 0)<key (at2 o k))(hr:o.all rightS=true):leastI o o.length=0:=by
 refine Classical.byContradiction fun hne=>?_
 have hlt:=leastI_lt o o.length
 have h1:=hm (leastI o o.length) (by omega) (by omega)
 have h2:=leastI_le hr o.length (Nat.le_refl _) 0 h0
 omega
theorem norR_first {l:List Pq}(hg:goodP l)(hs:simpleP l):∀ k,0<k→k<(norR l).length→key (at2 (norR l) 0)<key (at2 (norR l) k):=by
 have h:=simp_of hg hs
 have h3:=h.len
 have hd:=dirI_simp h
 have hl:=dirI_len l
 have hgd:=simple_of hd (by unfold dirI; split; · rw [List.all_reverse]; exact hg.2.2.1
                            ·exact hg.2.2.1) (by rw [hl];exact hg.2.1)
 have hlt:=leastI_lt (dirI l) l.length
 have hst:∀ k,k<(dirI l).length→k≠leastI (dirI l) l.length→key (at2 (dirI l) (leastI (dirI l) l.length))<key (at2 (dirI l) k):=fun k hk hne=>by
  have:=least_strict hgd.1.2.2.1 hgd.1.2.2.2 (by omega) hk (by rw [hl];exact hne)
  rw [hl] at this
  exact this
 have hk:=kept_least hgd.1 hgd.2 (i:=leastI (dirI l) l.length) (by omega) hst
 have e:norR l=at2 (dirI l) (leastI (dirI l) l.length)::segI (dirI l) (leastI (dirI l) l.length+1) (l.length - 1):=by
  unfold norR
  have:l.length=1+(l.length - 1):=by omega
  conv=>lhs;rw [this]
  rw [segI_one,if_pos (by rw [← this];exact hk),← this,cyc_lt (by omega)]
  rfl
 intro k hk0 hkl
 have hnd:=(norR_simp h).1.nodup
 have hmem:at2 (norR l) k∈dirI l:=by
  have:at2 (norR l) k∈norR l:=by rw [at2_eq hkl];exact List.getElem_mem _
  obtain⟨j,hj,e2⟩:=segI_mem (show at2 (norR l) k∈segI (dirI l) (leastI (dirI l) l.length) l.length from this)
  rw [e2]
  unfold cyc
  rw [at2_eq (Nat.mod_lt _ (by omega))]
  exact List.getElem_mem _
 obtain⟨m,hm,e3⟩:=List.getElem_of_mem hmem
 have e0:at2 (norR l) 0=at2 (dirI l) (leastI (dirI l) l.length):=by rw [e];rfl
 rw [e0,← e3,← at2_eq hm]
 refine hst m hm fun hh=>?_
 have:at2 (norR l) k=at2 (norR l) 0:=by rw [e0,← hh,at2_eq hm,e3]
 have:=nodup_at hnd hkl (by omega) this
 omega
theorem norR_again {l:List Pq}(hg:goodP l)(hs:simpleP l):norR (norR l)=norR l:=by
 have h:=simp_of hg hs
 obtain⟨h1,h2,h3⟩:=norR_simp h
 have hl:=h1.len
 have hd:dirI (norR l)=norR l:=dirI_self (by omega) (by rw [h2];exact dirI_area h)
 rw [norR_ker (by omega),hd,least_first (by omega) (norR_first hg hs) (norR_right hg),turnI_zero]
 exact (ker_sub _).eq_of_length h3
theorem turnI_rev (o:List Pq){j:Nat}(hj:j≤o.length):(turnI o j).reverse=turnI o.reverse (o.length - j):=by
 unfold turnI
 rw [List.reverse_append,List.drop_reverse,List.take_reverse,show o.length - (o.length - j)=j by omega]
theorem turnI_full (o:List Pq):turnI o o.length=turnI o 0:=by simp [turnI]
theorem norR_turnI {l l':List Pq}{j:Nat}(hg:goodP l)(hs:simpleP l)(hj:j<l.length)(hl:l'.length=l.length)(e:dirI l'=turnI (dirI l) j):norR l'=norR l:=by
 have h:=simp_of hg hs
 have hd:=dirI_simp h
 have hdl:=dirI_len l
 have hr:(dirI l).all rightS=true:=by
  unfold dirI;split
  ·rw [List.all_reverse];exact hg.2.2.1
  ·exact hg.2.2.1
 have h0:0<(dirI l).length:=by omega
 have hT:=turnI_len (dirI l) j (by omega)
 have hrT:(turnI (dirI l) j).all rightS=true:=by
  unfold turnI
  rw [List.all_append,Bool.and_comm,← List.all_append,List.take_append_drop]
  exact hr
 have hlt:=leastI_lt (turnI (dirI l) j) l.length
 have hlt2:=leastI_lt (dirI l) l.length
 unfold norR
 rw [e,hl]
 generalize hf:leastI (turnI (dirI l) j) l.length=f' at hlt
 generalize hF:leastI (dirI l) l.length=F at hlt2
 -- the same corner
 have hc:(j+f') % (dirI l).length=F:=by
  refine Classical.byContradiction fun hne=>?_
  have s1:=least_strict hr hd.nodup h0 (k:=(j+f') % (dirI l).length) (Nat.mod_lt _ h0) (by rw [hdl,hF];rw [hdl] at hne;exact hne)
  rw [hdl,hF,← hdl] at s1
  have s2:=leastI_le hrT l.length (by rw [hT];omega) ((F+(dirI l).length - j) % (dirI l).length) (by rw [← hdl];exact Nat.mod_lt _ h0)
  rw [hf,turnI_at (by omega) (by omega),turnI_at (by omega) (Nat.mod_lt _ h0)] at s2
  have e1:cyc (dirI l) (j+(F+(dirI l).length - j) % (dirI l).length)=at2 (dirI l) F:=by
   unfold cyc
   rw [Nat.add_mod_mod,show j+(F+(dirI l).length - j)=F+(dirI l).length by omega,Nat.add_mod_right,Nat.mod_eq_of_lt (by omega)]
  rw [e1] at s2
  have e2:cyc (dirI l) (j+f')=at2 (dirI l) ((j+f') % (dirI l).length):=rfl
  rw [e2] at s2
  omega
 have hseg:∀ k,segI (turnI (dirI l) j) f' k=segI (dirI l) (j+f') k:=fun k=>by
  induction k with
  |zero=>rfl
  |succ k ih =>
   have hc:∀ i,cyc (turnI (dirI l) j) i=cyc (dirI l) (j+i):=fun i=>turnI_cyc (by omega) i
   rw [segI_succ,segI_succ,ih,keptO_cyc,keptO_cyc,hT,hc,hc,hc]
   rw [show j+(f'+k+(dirI l).length - 1)=j+f'+k+(dirI l).length - 1 by omega,show j+(f'+k)=j+f'+k by omega,show j+(f'+k+1)=j+f'+k+1 by omega]
 rw [hseg]
 have hdm:=Nat.div_add_mod (j+f') (dirI l).length
 by_cases hw:j+f'<(dirI l).length
 ·rw [Nat.mod_eq_of_lt hw] at hc
  rw [hc]
 ·have e3:j+f'=F+(dirI l).length:=by
   rw [← hc,Nat.mod_eq_sub_mod (by omega),Nat.mod_eq_of_lt (by omega)]
   omega
  rw [e3,segI_per h0]
theorem norR_other {l:List Pq}(hg:goodP l)(hs:simpleP l){j:Nat}(hj:j<l.length)(back:Bool):polyE (turnI (if back=true then l.reverse else l) j)=0∧norR (turnI (if back=true then l.reverse else l) j)=norR l:=by
 have h:=simp_of hg hs
 have h3:=h.len
 have h200:=hg.2.1
 have ha:=h.area
 have hl0:(if back=true then l.reverse else l).length=l.length:=by split <;> simp
 have hS:Simp (turnI (if back=true then l.reverse else l) j):=by
  refine Simp.turn ?_ j
  split
  ·exact h.rev
  ·exact h
 have hlen:(turnI (if back=true then l.reverse else l) j).length=l.length:=by rw [turnI_len _ _ (by omega),hl0]
 have hr:(turnI (if back=true then l.reverse else l) j).all rightS=true:=by
  unfold turnI
  rw [List.all_append,Bool.and_comm,← List.all_append,List.take_append_drop]
  split
  ·rw [List.all_reverse];exact hg.2.2.1
  ·exact hg.2.2.1
 obtain⟨g1,g2⟩:=simple_of hS hr (by rw [hlen];exact hg.2.1)
 refine⟨polyE_yes g1 g2,?_⟩
 have hA:ar (turnI (if back=true then l.reverse else l) j)=if back=true then -ar l else ar l:=by
  rw [ar_turn]
  split
  ·rw [ar_rev]
  ·rfl
 have rev0:∀ o:List Pq,o.length=l.length→∃ j',j'<l.length∧(turnI o j).reverse=turnI o.reverse j':=fun o ho=>by
  rw [turnI_rev o (by omega)]
  by_cases hz:j=0
  ·exact⟨0,by omega,by rw [hz,Nat.sub_zero,← turnI_full,List.length_reverse]⟩
  ·exact⟨o.length - j,by omega,rfl⟩
 have:∃ j',j'<l.length∧dirI (turnI (if back=true then l.reverse else l) j)=turnI (dirI l) j':=by
  unfold dirI
  rw [area_ar (by omega),area_ar (by omega),hA]
  cases back with
  |false =>
   simp only [Bool.false_eq_true,if_false]
   split
   ·exact rev0 l rfl
   ·exact⟨j,hj,rfl⟩
  |true =>
   simp only [if_true]
   by_cases hn:ar l<0
   ·rw [if_neg (by omega),if_pos hn]
    exact⟨j,hj,rfl⟩
   ·rw [if_pos (by omega),if_neg hn]
    obtain⟨j',h1,h2⟩:=rev0 l.reverse (by simp)
    exact⟨j',h1,by rw [h2,List.reverse_reverse]⟩
 obtain⟨j',hj',e⟩:=this
 exact norR_turnI hg hs hj' hlen e
end Go.Aw
end
