/-
  Parts of a proof. No condition.
-/
import Derived.Test.YtmkcjbpekejgdaaGreatQAb
set_option linter.unusedSimpArgs false
set_option linter.unusedVariables false
noncomputable section
namespace Go.Aw
open Go.RowKit
section
variable {P:Program}{T:Tab}{ι:Nat→Loc}{B nx:Nat}{h:Heap}
theorem vmm_max {v:Value}{r:List Value}{u:Value}(hu:vmm std.max v r=some u)(w:World):gS u=true∧(r.foldlM Builtin.max2 v).run P w=.ok u w:=by
 induction r generalizing v with
 |nil =>
  cases v <;> simp [vmm] at hu
  subst hu
  exact⟨rfl,by simp⟩
 |cons x r ih =>
  cases v <;> cases x <;> simp only [vmm] at hu <;> try (cases hu;done)
  rename_i k a k' b
  split at hu
  ·rename_i hk
   have hk':=kEq_true hk
   subst hk'
   obtain⟨h1,h2⟩:=ih hu
   refine⟨h1,?_⟩
   rw [← h2]
   simp [List.foldlM_cons,Builtin.max2,std]
  ·cases hu
theorem vmm_min {v:Value}{r:List Value}{u:Value}(hu:vmm std.min v r=some u)(w:World):gS u=true∧(r.foldlM Builtin.min2 v).run P w=.ok u w:=by
 induction r generalizing v with
 |nil =>
  cases v <;> simp [vmm] at hu
  subst hu
  exact⟨rfl,by simp⟩
 |cons x r ih =>
  cases v <;> cases x <;> simp only [vmm] at hu <;> try (cases hu;done)
  rename_i k a k' b
  split at hu
  ·rename_i hk
   have hk':=kEq_true hk
   subst hk'
   obtain⟨h1,h2⟩:=ih hu
   refine⟨h1,?_⟩
   rw [← h2]
   simp [List.foldlM_cons,Builtin.min2,std]
  ·cases hu
theorem vmm_ints {f:Int→Int→Int}{v:Value}{r:List Value}{u:Value}(hu:vmm f v r=some u):r.map (tr ι)=r∧tr ι v=v:=by
 induction r generalizing v with
 |nil =>
  cases v <;> simp [vmm] at hu
  exact⟨rfl,rfl⟩
 |cons x r ih =>
  cases v <;> cases x <;> simp only [vmm] at hu <;> try (cases hu;done)
  split at hu
  ·obtain⟨h1,_⟩:=ih hu
   exact⟨by simp [h1,tr_int],rfl⟩
  ·cases hu
theorem vbuiltin_ok (hT:TabOK P T){b:Builtin}{ts:Array TypeId}{vs:List Value}{K:Value→Prop}(hl:vbuiltin std T b ts vs K)(hs:∀ v∈vs,scT ι nx v) :
  ∃ v,K v∧scT ι nx v∧∀ (ty:TypeId) (cs:Array Bool) w,RelH ι B h nx w→(builtin b ts ty cs (vs.map (tr ι)).toArray).run P w=.ok (.value (tr ι v)) w:=by
 unfold vbuiltin at hl
 split at hl
 ·rename_i t a n c hts
  split at hl
  case h_2=>exact hl.elim
  rename_i e s1 b1 z1 ht
  have hd:=(hT t _ ht).sl rfl
  obtain⟨ts⟩:=ts
  simp only at hts
  subst hts
  have hsl:∃ a' c',tr ι (.slice a n c)=.slice a' n c':=by
   cases a with
   |none=>exact⟨_,_,rfl⟩
   |some a =>
    simp only [tr,trA,trS,trP]
    split
    ·exact⟨_,_,rfl⟩
    ·exact⟨_,_,rfl⟩
  obtain⟨a',c',hsl⟩:=hsl
  exact⟨_,hl,by simp [scT,scA,scS,scP],fun ty cs w H=>by simp [builtin,hsl,Builtin.len_,run_underlying hd,goInt,tr_int,std]⟩
 ·rename_i t n c hts
  split at hl
  case h_2=>exact hl.elim
  rename_i e s1 b1 z1 ht
  have hd:=(hT t _ ht).sl rfl
  obtain⟨ts⟩:=ts
  simp only at hts
  subst hts
  exact⟨_,hl,by simp [scT,scA,scS,scP],fun ty cs w H=>by simp [builtin,tr_slice_none,Builtin.cap_,run_underlying hd,goInt,tr_int,std]⟩
 ·rename_i x v r
  obtain⟨u,hu,hK⟩:=on_ok hl
  obtain⟨e1,e2⟩:=vmm_ints (ι:=ι) hu
  refine⟨u,hK,scT_g (by
   have:=(vmm_max (P:=P) hu default).1
   cases u <;> first|exact this|(simp [gS] at this)),fun ty cs w H=>?_⟩
  obtain⟨h1,h2⟩:=vmm_max (P:=P) hu w
  have:tr ι u=u:=tr_g (by cases u <;> first|exact h1|(simp [gS] at h1))
  simp only [builtin,List.map_cons,e1,e2,Builtin.max_,Sem.run_bind,h2,Result.andThen_ok,Sem.run_pure,this]
 ·rename_i x v r
  obtain⟨u,hu,hK⟩:=on_ok hl
  obtain⟨e1,e2⟩:=vmm_ints (ι:=ι) hu
  refine⟨u,hK,scT_g (by
   have:=(vmm_min (P:=P) hu default).1
   cases u <;> first|exact this|(simp [gS] at this)),fun ty cs w H=>?_⟩
  obtain⟨h1,h2⟩:=vmm_min (P:=P) hu w
  have:tr ι u=u:=tr_g (by cases u <;> first|exact h1|(simp [gS] at h1))
  simp only [builtin,List.map_cons,e1,e2,Builtin.min_,Sem.run_bind,h2,Result.andThen_ok,Sem.run_pure,this]
 ·exact hl.elim
theorem looks_value {m:Sem Value}{v:Value}(hm:Looks P ι B nx h m v):scT ι nx v∧∀ w,RelH ι B h nx w→(do pure (.value (← m)):Sem Next).run P w=.ok (.value (tr ι v)) w :=
 ⟨scT_of_A hm.1,fun w H=>by simp only [Sem.run_bind,hm.2 w H,Result.andThen_ok,Sem.run_pure]⟩
theorem gT_of_S {v:Value}(h:gS v=true):gT v=true:=by
 cases v <;> first|exact h|(simp [gS] at h)
theorem vlook_ok (hT:TabOK P T){env:List (Nat × Value)}{a:Act}(he:EnvOK ι nx env a){o:Oper}{K:Value→Prop}(hl:vlook std T env h o.op K){w0:World}(H0:RelH ι B h nx w0) :
  ∃ v,K v∧scT ι nx v∧∀ w,RelH ι B h nx w→(execOp a.eval o).run P w=.ok (.value (tr ι v)) w:=by
 obtain⟨dst,op,ty,pos,after,guard⟩:=o
 simp only at hl
 cases op <;> simp only [vlook] at hl <;> try (exact hl.elim)
 case move x =>
  obtain⟨u,hu,hK⟩:=on_ok hl
  obtain⟨e1,e2⟩:=he.opv hu
  exact⟨u,hK,e2,fun w H=>by simp [execOp,e1]⟩
 case assign x =>
  obtain⟨u,hu,hK⟩:=on_ok hl
  obtain⟨e1,e2⟩:=he.opv hu
  exact⟨u,hK,e2,fun w H=>by simp [execOp,e1]⟩
 case pick c x y =>
  obtain⟨u,hu,hK⟩:=on_ok hl
  obtain⟨e1,e2⟩:=he.opv hu
  split at hK
  case h_2=>exact hK.elim
  rename_i t
  rcases br_cases hK with ⟨rfl,hb⟩|⟨rfl,hb⟩
  ·obtain⟨v,hv,hK⟩:=on_ok hb
   obtain⟨e3,e4⟩:=he.opv hv
   exact⟨v,hK,e4,fun w H=>by simp [execOp,e1,e3,tr_bool,asBool]⟩
  ·obtain⟨v,hv,hK⟩:=on_ok hb
   obtain⟨e3,e4⟩:=he.opv hv
   exact⟨v,hK,e4,fun w H=>by simp [execOp,e1,e3,tr_bool,asBool]⟩
 case build t ps =>
  split at hl
  case h_2=>exact hl.elim
  rename_i l hps
  obtain⟨e1,e2⟩:=partsOK_spec he hps
  obtain⟨v,hv,hm⟩:=vbuild_ok (ι:=ι) (B:=B) (h:=h) hT hl e2
  have e3:(ps.map fun p=>(p.1,a.eval p.2))=(l.map fun p=>(p.1,tr ι p.2)).toArray:=by
   apply Array.ext'
   simpa using e1
  rw [← e3] at hm
  exact⟨v,hv,looks_value hm⟩
 case load t x =>
  obtain⟨u,hu,hK⟩:=on_ok hl
  obtain⟨e1,e2⟩:=he.opv hu
  obtain⟨v,hv,hm⟩:=vload_ok (P:=P) hT hK H0
  rw [← e1] at hm
  exact⟨v,hv,looks_value hm⟩
 case nilCheck x =>
  obtain⟨u,hu,hK⟩:=on_ok hl
  obtain⟨e1,e2⟩:=he.opv hu
  split at hK
  ·rename_i ad
   refine⟨_,hK,e2,fun w H=>?_⟩
   have:ad.block<nx∧(ι ad.block).isAt=true:=e2
   cases hι:ι ad.block with
   |nil p=>rw [hι] at this;cases this.2
   |lay b o e=>simp [execOp,e1,tr,trA,trS,trP,hι]
  ·exact⟨_,hK,e2,fun w H=>by simp [execOp,e1,tr,trA,trS,trFn]⟩
  ·rename_i l fi c
   refine⟨_,hK,e2,fun w H=>?_⟩
   simp only [execOp,e1,tr,trA,trS,trFn]
   cases ι l <;> simp
  ·exact hK.elim
 case binOp op xt x y yt =>
  obtain⟨u,hu,hK⟩:=on_ok hl
  obtain⟨v,hv,hK⟩:=on_ok hK
  obtain⟨e1,e2⟩:=he.opv hu
  obtain⟨e3,e4⟩:=he.opv hv
  split at hK
  ·rename_i m c
   obtain⟨r,h1,h2,h3⟩:=vnil_ok (P:=P) (ι:=ι) (B:=B) (n:=m) (c:=c) (p:=x) (q:=y) hT hK
   refine⟨r,h1,scT_g (gT_of_S h2),fun w H=>?_⟩
   have:=h3 w H
   simp only [execOp,e1,e3,tr_slice_none,Sem.run_bind,tr_g (gT_of_S h2)] at this ⊢
   rw [this]
   rfl
  obtain⟨r,h1,h2,h3⟩:=vbin_ok (P:=P) (ι:=ι) (p:=x) (q:=y) hT hK
  refine⟨r,h1,scT_g (gT_of_S h2),fun w H=>?_⟩
  have:=h3 w
  simp only [execOp,e1,e3,Sem.run_bind,tr_g (gT_of_S h2)] at this ⊢
  rw [this]
  rfl
 case unOp op xt x =>
  obtain⟨u,hu,hK⟩:=on_ok hl
  obtain⟨e1,e2⟩:=he.opv hu
  obtain⟨r,h1,h2,h3⟩:=vun_ok (P:=P) (ι:=ι) hK
  refine⟨r,h1,scT_g (gT_of_S h2),fun w H=>?_⟩
  simp only [execOp,e1,Sem.run_bind,h3 w,Result.andThen_ok,Sem.run_pure,tr_g (gT_of_S h2)]
 case convert s d x =>
  obtain⟨u,hu,hK⟩:=on_ok hl
  obtain⟨e1,e2⟩:=he.opv hu
  split at hK
  case h_2=>exact hK.elim
  rename_i k0 n si k s1 b1 z1 hs hd
  obtain⟨h1,h2⟩:=must_iff.1 hK
  obtain⟨ds,hds,_⟩:=(hT s _ hs).desc
  have hdd:=(hT d _ hd).int rfl
  refine⟨_,h2,by simp [scT,scA,scS,scP],fun w H=>?_⟩
  simp [execOp,e1,tr_int,convert,run_underlying hds,run_underlying hdd,Conv.intToInt,wrap_fits h1]
 case makeFunc fn first cap =>
  split at hl
  case h_2=>exact hl.elim
  rename_i f hfirst
  split at hl
  case h_2=>exact hl.elim
  rename_i l hc
  obtain⟨e1,e2⟩:=capOK_spec he hc
  obtain⟨first⟩:=first
  simp only at hfirst
  subst hfirst
  refine⟨_,hl,⟨trivial,fun v hv=>e2 v (by simpa using hv)⟩,fun w H=>?_⟩
  have:cap.map a.eval=(l.map (trP ι)).toArray:=by
   apply Array.ext'
   simpa using e1
  simp [execOp,Instr.makeFunc,tr,trA,trS,trFn,this]
 case fieldAddr s x f =>
  obtain⟨u,hu,hK⟩:=on_ok hl
  obtain⟨e1,e2⟩:=he.opv hu
  have hx:scA ι nx u:=by
   cases u <;> first|exact e2|(simp [vfieldAddr] at hK)
  obtain⟨v,hv,hm⟩:=vfieldAddr_ok (P:=P) (B:=B) (h:=h) hT hK hx
  rw [← e1] at hm
  exact⟨v,hv,looks_value hm⟩
 case field s x f =>
  obtain⟨u,hu,hK⟩:=on_ok hl
  obtain⟨e1,e2⟩:=he.opv hu
  have hx:scA ι nx u:=by
   cases u <;> first|exact e2|(simp [vfield] at hK)
  obtain⟨v,hv,hm⟩:=vfield_ok (P:=P) (B:=B) (h:=h) hT hK hx
  rw [← e1] at hm
  exact⟨v,hv,looks_value hm⟩
 case indexAddr t x i =>
  obtain⟨u,hu,hK⟩:=on_ok hl
  obtain⟨j,hj,hK⟩:=on_ok hK
  obtain⟨e1,e2⟩:=he.opv hu
  obtain⟨e3,e4⟩:=he.opv hj
  have hx:scA ι nx u:=by
   cases u <;> first|exact e2|(unfold vindexAddr at hK;split at hK <;> simp_all)
  obtain⟨v,hv,hm⟩:=vindexAddr_ok (P:=P) (B:=B) (h:=h) hT hK hx
  rw [← e1,← e3] at hm
  exact⟨v,hv,looks_value hm⟩
 case index t x i =>
  obtain⟨u,hu,hK⟩:=on_ok hl
  obtain⟨j,hj,hK⟩:=on_ok hK
  obtain⟨e1,e2⟩:=he.opv hu
  obtain⟨e3,e4⟩:=he.opv hj
  have hx:scA ι nx u:=by
   cases u <;> first|exact e2|(unfold vindex at hK;split at hK <;> simp_all)
  obtain⟨v,hv,hm⟩:=vindex_ok (P:=P) (B:=B) (h:=h) hT hK hx
  rw [← e1,← e3] at hm
  exact⟨v,hv,looks_value hm⟩
 case extract x i =>
  obtain⟨u,hu,hK⟩:=on_ok hl
  obtain⟨e1,e2⟩:=he.opv hu
  split at hK
  case h_2=>exact hK.elim
  rename_i vs
  obtain⟨v,hv,hK⟩:=on_ok hK
  have hm:=e2 v (List.mem_of_getElem? hv)
  refine⟨v,hK,scT_of_A hm,fun w H=>?_⟩
  have:(vs.map (trA ι))[i]? = some (trA ι v):=by
   rw [Array.getElem?_map,← Array.getElem?_toList,hv];rfl
  have hx:Instr.extract (tr ι (.tuple vs)) i=pure (trA ι v):=by simp only [tr,Instr.extract,this]
  simp only [execOp,e1,hx,Sem.run_bind,Sem.run_pure,Result.andThen_ok,tr_of_A hm]
 case call c =>
  obtain⟨cal,args,ats⟩:=c
  simp only at hl
  split at hl
  case h_2=>exact hl.elim
  rename_i b
  split at hl
  case h_2=>exact hl.elim
  rename_i vs hvs
  obtain⟨e1,e2⟩:=vargs_spec he hvs
  obtain⟨v,h1,h2,h3⟩:=vbuiltin_ok (ι:=ι) (B:=B) (h:=h) hT hl e2
  refine⟨v,h1,h2,fun w H=>?_⟩
  have:args.map a.eval=(vs.map (tr ι)).toArray:=by
   apply Array.ext'
   simpa using e1
  rw [← this] at h3
  simp only [execOp,resolve,Sem.run_bind,Sem.run_pure,Result.andThen_ok,invoke]
  exact h3 _ _ w H
end
end Go.Aw
end

noncomputable section
namespace Go.Aw
open Go.RowKit
structure Wrote (w w':World) (b:Nat):Prop where
 os:w'.os=w.os
 tape:w'.tape=w.tape
 output:w'.output=w.output
 size:w'.heap.size=w.heap.size
 other:∀ c,c≠b→w'.heap[c]? = w.heap[c]?
 drawn:w'.drawn=w.drawn
theorem Wrote.refl (w:World)(b:Nat):Wrote w w b:=⟨rfl,rfl,rfl,rfl,fun _ _=>rfl,rfl⟩
theorem Wrote.trans {a b c:World}{x:Nat}(h:Wrote a b x)(k:Wrote b c x):Wrote a c x :=
 ⟨k.os.trans h.os,k.tape.trans h.tape,k.output.trans h.output,k.size.trans h.size,fun y hy=>(k.other y hy).trans (h.other y hy),k.drawn.trans h.drawn⟩
theorem Wrote.below {w w':World}{b B:Nat}(h:Wrote w w' b)(hb:B≤b):Bel B w w' :=
 ⟨h.os,h.tape,h.output,Nat.le_of_eq h.size.symm,fun k hk=>h.other k (by omega),Nat.le_of_eq h.drawn.symm⟩
theorem setCell_wrote (w:World){b o:Nat}{arr:Array Value}{t:TypeId}{fz:Nat × Nat}(v:Value)(hb:w.heap[b]? = some (.cells arr t fz)) :
  Wrote w (w.setCell ⟨b,o,none⟩ v) b∧(w.setCell ⟨b,o,none⟩ v).heap[b]? = some (.cells (arr.setIfInBounds o v) t fz):=by
 refine⟨⟨rfl,rfl,rfl,by simp [World.setCell],fun c hc=>Go.RowKit.Below.heap_setCell _ _ _ _ hc,rfl⟩,?_⟩
 simp [World.setCell,Array.getElem?_modify,hb]
theorem run_storeCells {P:Program}{b off:Nat}{t:TypeId}:∀ (vs:List Value) (i:Nat) (w:World) (arr:Array Value),(∀ v∈vs,v.oneCell'=true) →
  w.heap[b]? = some (.cells arr t (0,0))→off+i+vs.length≤arr.size →
  ∃ w' arr',(storeCells ⟨b,off,none⟩ vs i).run P w=.ok () w'∧Wrote w w' b∧w'.heap[b]? = some (.cells arr' t (0,0))∧arr'.size=arr.size ∧
    ∀ j,arr'[j]? = if off+i≤j∧j<off+i+vs.length then vs[j - (off+i)]? else arr[j]?
 |[],i,w,arr,_,hb,_=>⟨w,arr,by simp [storeCells],Wrote.refl _ _,hb,rfl,fun j=>by rw [if_neg (by simp only [List.length_nil];omega)]⟩
 |v::vs,i,w,arr,hv,hb,hs=>by
  simp only [List.length_cons] at hs
  have hc:w.cell? ⟨b,off+i,none⟩=some (arr[off+i]'(by omega)):=by
   simp [World.cell?,hb]
  have hf:w.frozen? ⟨b,off+i,none⟩=false:=by simp [World.frozen?,hb]
  obtain⟨hw1,hb1⟩:=setCell_wrote (o:=off+i) w v hb
  obtain⟨w',arr',h1,h2,h3,h4,h5⟩:=run_storeCells (P:=P) (off:=off) (t:=t) vs (i+1) (w.setCell ⟨b,off+i,none⟩ v) (arr.setIfInBounds (off+i) v) (fun u hu=>hv u (by simp [hu])) hb1 (by simp;omega)
  refine⟨w',arr',?_,hw1.trans h2,h3,by simp [h4],fun j=>?_⟩
  ·simp only [storeCells,Sem.run_bind]
   rw [Addr.add_lit,run_store _ _ _ _ _ (hv v (by simp)),hc]
   simp only [hf,Bool.false_eq_true,if_false,Result.andThen_ok,h1]
  ·rw [h5 j]
   simp only [List.length_cons]
   by_cases hj:j=off+i
   ·subst hj
    rw [if_neg (by omega),if_pos (by omega)]
    rw [Array.getElem?_setIfInBounds_self_of_lt (by omega)]
    simp
   ·by_cases hj2:off+(i+1)≤j∧j<off+(i+1)+vs.length
    ·rw [if_pos hj2,if_pos (by omega)]
     rw [show j - (off+i)=(j - (off+(i+1)))+1 by omega]
     simp
    ·rw [if_neg hj2,if_neg (by omega)]
     rw [Array.getElem?_setIfInBounds_ne (by omega)]
def putN (cs:List Value)(o:Nat)(vs:List Value):List Value:=cs.take o++vs++cs.drop (o+vs.length)
theorem putN_length {cs vs:List Value}{o:Nat}(h:o+vs.length≤cs.length):(putN cs o vs).length=cs.length:=by
 simp [putN];omega
theorem putN_get {cs vs:List Value}{o:Nat}(h:o+vs.length≤cs.length)(j:Nat):(putN cs o vs)[j]? = if o≤j∧j<o+vs.length then vs[j - o]? else cs[j]? := by
 unfold putN
 rw [List.append_assoc]
 by_cases h1:j<o
 ·rw [List.getElem?_append_left (by simp;omega),List.getElem?_take_of_lt h1,if_neg (by omega)]
 ·rw [List.getElem?_append_right (by simp;omega)]
  simp only [List.length_take]
  rw [Nat.min_eq_left (by omega)]
  by_cases h2:j<o+vs.length
  ·rw [List.getElem?_append_left (by omega),if_pos (by omega)]
  ·rw [List.getElem?_append_right (by omega),List.getElem?_drop,if_neg (by omega)]
   congr 1;omega
theorem putN_mem {cs vs:List Value}{o:Nat}{v:Value}(h:v∈putN cs o vs):v∈cs∨v∈vs:=by
 unfold putN at h
 rcases List.mem_append.1 h with h|h
 ·rcases List.mem_append.1 h with h|h
  ·exact .inl (List.mem_of_mem_take h)
  ·exact .inr h
 ·exact .inl (List.mem_of_mem_drop h)
section
variable {P:Program}{T:Tab}{ι:Nat→Loc}{B nx:Nat}{h:Heap}
theorem RelH.put {w:World}(H:RelH ι B h nx w){k:Nat}{g:Bool}{sz:Nat}{cs:List Value}(hk:look h k=some (.cells true g sz cs)){o:Nat}{vs:List Value}(ho:o+vs.length≤cs.length)
  (hs:∀ v∈vs,scS ι nx v) (hne:vs≠[]) :
  ∃ b off e w',ι k=.lay b off e∧(storeCells ⟨b,off+o,none⟩ (vs.map (trS ι))).run P w=.ok () w'∧Bel B w w' ∧
    RelH ι B (upd h k (.cells true false sz (putN cs o vs))) nx w':=by
 have hob:=H.obj k _ hk
 have hlen:0<vs.length:=by cases vs with|nil=>exact absurd rfl hne|cons _ _=>simp
 cases hι:ι k with
 |nil =>
  rw [hι] at hob
  have:cs=[]:=(show cs=[]∧_ from hob).1
  subst this
  simp only [List.length_nil] at ho;omega
 |lay b off e =>
  rw [hι] at hob
  obtain⟨hB,_,arr,t,h1,h2,h3⟩:=hob
  have hone:∀ v∈vs.map (trS ι),v.oneCell'=true:=by
   intro v hv
   obtain⟨u,hu,rfl⟩:=List.mem_map.1 hv
   exact (trS_oneCell (hs u hu)).1
  obtain⟨w',arr',e1,e2,e3,e4,e5⟩:=run_storeCells (P:=P) (off:=off+o) (vs.map (trS ι)) 0 w arr hone h1 (by simp;omega)
  refine⟨b,off,e,w',rfl,e1,e2.below hB,?_⟩
  refine H.set hk rfl ?_ ?_ rfl (fun c hc=>e2.other c (fun e=>hc (by rw [hι,e];rfl))) (Nat.le_of_eq e2.size.symm)
  ·rw [hι]
   refine⟨hB,by simp,arr',t,e3,?_,fun i v hv=>?_⟩
   ·rw [putN_length ho,e4];exact h2
   ·rw [putN_get ho] at hv
    rw [e5]
    simp only [List.length_map,Nat.add_zero]
    by_cases hi:o≤i∧i<o+vs.length
    ·rw [if_pos hi] at hv
     rw [if_pos (by omega),show off+i - (off+o)=i - o by omega,List.getElem?_map,hv]
     rfl
    ·rw [if_neg hi] at hv
     rw [if_neg (by omega)]
     exact h3 i v hv
  ·intro v hv
   rcases putN_mem hv with hv|hv
   ·exact H.sc k _ hk v hv
   ·exact hs v hv
theorem RelH.fresh {w:World}(H:RelH ι B h nx w)(t:TypeId)(arr:Array Value)(cs:List Value)(sz:Nat)(ha:arr.toList=cs.map (trS ι))(hs:∀ v∈cs,scS ι nx v) :
  RelH (ins ι nx (.lay w.heap.size 0 0)) B (hput h nx (.cells true false sz cs)) (nx+1) (w.alloc (.cells arr t)):=by
 have hsz:arr.size=cs.length:=by rw [← Array.length_toList,ha,List.length_map]
 refine H.new (.cells arr t) (.cells true false sz cs) ?_ ?_
 ·refine⟨H.size,by simp,arr,t,(MapKept.heap_alloc w _).1,by omega,fun i v hv=>?_⟩
  rw [Nat.zero_add,← Array.getElem?_toList,ha,List.getElem?_map,hv]
  simp only [Option.map_some]
  rw [trS_eq (ι:=ι) (fun k hk=>ins_lt _ _ hk) (hs v (List.mem_of_getElem? hv))]
 ·intro v hv
  exact scS_mono (by omega) (fun k hk=>ins_lt _ _ hk) (hs v hv)
end
end Go.Aw
end

noncomputable section
namespace Go.Aw
open Go.RowKit
def rep (n:Nat)(zs:List Value):List Value:=(List.replicate n zs).flatten
theorem zeroCells_rep (z:Array Value)(n:Nat):(Builtin.zeroCells z n).toList=rep n z.toList:=by
 apply List.ext_getElem?
 intro i
 have hl:(rep n z.toList).length=n*z.size:=by
  unfold rep
  induction n with
  |zero=>simp
  |succ n ih=>rw [List.replicate_succ,List.flatten_cons,List.length_append,ih,Nat.succ_mul,Array.length_toList];omega
 have hg:∀ n i,i<n*z.size→(rep n z.toList)[i]? = z[i % z.size]? := by
  intro n
  induction n with
  |zero=>intro i hi;omega
  |succ n ih =>
   intro i hi
   unfold rep
   rw [List.replicate_succ,List.flatten_cons]
   by_cases h:i<z.size
   ·rw [List.getElem?_append_left (by simpa using h),Nat.mod_eq_of_lt h,Array.getElem?_toList]
   ·rw [List.getElem?_append_right (by simpa using Nat.le_of_not_lt h)]
    rw [Nat.succ_mul] at hi
    have:=ih (i - z.size) (by omega)
    rw [show (List.replicate n z.toList).flatten=rep n z.toList from rfl,Array.length_toList,this]
    congr 1
    conv=>rhs;rw [show i=(i - z.size)+z.size by omega,Nat.add_mod_right]
 by_cases h:i<n*z.size
 ·rw [hg n i h]
  have h0:0<z.size:=Nat.pos_of_ne_zero (fun e=>by rw [e] at h;omega)
  have hlt:=Nat.mod_lt i h0
  simp [Builtin.zeroCells,List.getElem?_range h,hlt]
 ·have e1:(Builtin.zeroCells z n).toList.length=n*z.size:=by rw [Array.length_toList,size_zeroCells]
  rw [List.getElem?_eq_none (by omega),List.getElem?_eq_none (by omega)]
abbrev KE:=Value→Heap→Nat→Prop
def vstore (T:Tab)(h:Heap)(nx:Nat)(t:TypeId)(x v:Value)(K:KE):Prop :=
 match x with
 |.pointer (some ⟨k,o,none⟩) =>
  (match look T t,look h k with
  |some ti,some (.cells true _ sz cs) =>
   (match Nat.beq v.cells.size ti.size,(match v with|.tuple _=>false|_=>true) with
   |true,true=>must (Nat.ble (o+v.cells.size) cs.length) (K undef (upd h k (.cells true false sz (putN cs o v.cells.toList))) nx)
   |_,_=>False)
  |_,_=>False)
 |_=>False
def vbox (h:Heap)(nx:Nat)(v:Value)(K:KE):Prop :=
 match v with
 |.tuple _=>False
 |v=>K (.pointer (some ⟨nx,0,none⟩)) (hput h nx (.cells true false 1 v.cells.toList)) (nx+1)
def valloc (T:Tab)(h:Heap)(nx:Nat)(t:TypeId)(K:KE):Prop :=
 match look T t with
 |some ti=>K (.pointer (some ⟨nx,0,none⟩)) (hput h nx (.cells true false 1 ti.zv.cells.toList)) (nx+1)
 |none=>False
def vbuildSlice (T:Tab)(h:Heap)(nx:Nat)(t:TypeId)(len:Nat)(ps:List (Nat × Value))(K:KE):Prop :=
 match look T t with
 |some { kind:=.sl e,.. } =>
  (match look T e with
  |some ei =>
   (match Nat.ble (len*ei.size) 1000000,aggParts ps with
   |true,true =>
    (match fillL (fun i=>some (i*ei.size,ei.size)) ps (rep len ei.zv.cells.toList) with
    |some cells=>K (.slice (some ⟨nx,0,none⟩) len len) (hput h nx (.cells true false ei.size cells)) (nx+1)
    |none=>False)
   |_,_=>False)
  |none=>False)
 |_=>False
section
variable {P:Program}{T:Tab}{ι:Nat→Loc}{B nx:Nat}{h:Heap}
def Does (P:Program)(ι:Nat→Loc)(B nx:Nat)(w:World)(m:Sem Value)(K:KE):Prop :=
 ∃ v h' nx' ι' w',K v h' nx'∧scT ι' nx' v∧RelH ι' B h' nx' w'∧Bel B w w'∧(∀ k,k<nx→ι' k=ι k)∧nx≤nx'∧m.run P w=.ok (tr ι' v) w'
theorem scA_of_T {v:Value}(h1:∀ c,v≠.tuple c)(h2:scT ι nx v):scA ι nx v:=by
 cases v with
 |tuple c=>exact absurd rfl (h1 c)
 |_=>exact h2
theorem scA_cells {v:Value}(hv:scA ι nx v):∀ u∈v.cells.toList,scS ι nx u:=by
 intro u hu
 cases v with
 |agg c=>exact hv u hu
 |_ =>
  simp only [Value.cells,List.mem_singleton] at hu
  subst hu
  exact hv
theorem vstore_ok (hT:TabOK P T){t:TypeId}{x v:Value}{K:KE}(hl:vstore T h nx t x v K)(hv:scT ι nx v){w:World}(H:RelH ι B h nx w) :
  ∃ h' w',K undef h' nx∧RelH ι B h' nx w'∧Bel B w w'∧(Instr.storeAt t (tr ι x) (tr ι v)).run P w=.ok () w':=by
 unfold vstore at hl
 split at hl
 case h_2=>exact hl.elim
 rename_i k o
 split at hl
 case h_2=>exact hl.elim
 rename_i ti g sz cs ht hk
 split at hl
 case h_2=>exact hl.elim
 rename_i hsz htup
 obtain⟨hb,hK⟩:=must_iff.1 hl
 have hti:=hT t _ ht
 have hsz:=Nat.eq_of_beq_eq_true hsz
 have hb:=Nat.le_of_ble_eq_true hb
 have hvA:scA ι nx v:=scA_of_T (fun c e=>by rw [e] at htup;cases htup) hv
 have hp:=hti.pos
 obtain⟨b,off,e,w',hι,hrun,hbel,hrel⟩:=H.put (P:=P) hk (o:=o) (vs:=v.cells.toList) (by simpa using hb) (scA_cells hvA) (by
  intro e
  have:v.cells.size=0:=by rw [← Array.length_toList,e];rfl
  omega)
 refine⟨_,w',hK,hrel,hbel,?_⟩
 have hc:=cells_tr hvA
 simp only [tr_pointer,hι,Instr.storeAt,Instr.sureAddr,Sem.run_bind,Sem.run_pure,Result.andThen_ok,storeVar,hti.sizeOf]
 rw [hc]
 simp only [Array.size_map,hsz,ne_eq,not_true_eq_false,if_false,Sem.run_ite,Array.toList_map]
 simpa using hrun
theorem vbox_ok {t:TypeId}{v:Value}{K:KE}(hl:vbox h nx v K)(hv:scT ι nx v){w:World}(H:RelH ι B h nx w):Does P ι B nx w (Instr.box t (tr ι v)) K:=by
 have hK:(∀ c,v≠.tuple c)∧K (.pointer (some ⟨nx,0,none⟩)) (hput h nx (.cells true false 1 v.cells.toList)) (nx+1):=by
  unfold vbox at hl
  split at hl
  ·exact hl.elim
  ·rename_i hne;exact⟨hne,hl⟩
 obtain⟨hne,hK⟩:=hK
 have hvA:=scA_of_T hne hv
 have hf:=H.fresh t (tr ι v).cells v.cells.toList 1 (by rw [cells_tr hvA];simp) (scA_cells hvA)
 refine⟨_,_,_,_,_,hK,?_,hf,?_,fun k hk=>ins_lt _ _ hk,by omega,?_⟩
 ·simp [scT,scA,scS,scP,ins_same,Loc.isAt]
 ·exact (below_alloc w _).mono H.size
 ·simp [Instr.box,newVar,newRow,tr_pointer,ins_same]
theorem zv_cells (hT:TabOK P T){t:TypeId}{ti:TyI}(ht:look T t=some ti):(∀ u∈ti.zv.cells.toList,gS u=true):=by
 have hg:=(hT t _ ht).zg
 intro u hu
 cases hz:ti.zv with
 |agg c=>rw [hz] at hu hg;exact allG_mem hg hu
 |_ =>
  rw [hz] at hu hg
  simp only [Value.cells,List.mem_singleton] at hu
  subst hu
  exact hg
theorem map_trS_of {l:List Value}(h:∀ u∈l,gS u=true):l.map (trS ι)=l:=map_trS_g (allG_of h)
theorem valloc_ok (hT:TabOK P T){t:TypeId}{K:KE}(hl:valloc T h nx t K){w:World}(H:RelH ι B h nx w):Does P ι B nx w (Instr.alloc t true (.tuple #[])) K:=by
 unfold valloc at hl
 split at hl
 case h_2=>exact hl.elim
 rename_i ti ht
 have hti:=hT t _ ht
 have hz:=zv_cells hT ht
 have hf:=H.fresh t ti.zv.cells ti.zv.cells.toList 1 (by rw [map_trS_of hz]) (fun v hv=>scS_g (hz v hv))
 refine⟨_,_,_,_,_,hl,?_,hf,?_,fun k hk=>ins_lt _ _ hk,by omega,?_⟩
 ·simp [scT,scA,scS,scP,ins_same,Loc.isAt]
 ·exact (below_alloc w _).mono H.size
 ·simp [Instr.alloc,hti.zero,newVar,newRow,tr_pointer,ins_same]
theorem vbuildSlice_ok (hT:TabOK P T){t:TypeId}{len:Nat}{ps:List (Nat × Value)}{K:KE}(hl:vbuildSlice T h nx t len ps K)(hs:∀ p∈ps,scT ι nx p.2){w:World}(H:RelH ι B h nx w) :
  Does P ι B nx w (Instr.buildSlice t len (ps.map fun p=>(p.1,tr ι p.2)).toArray) K:=by
 unfold vbuildSlice at hl
 split at hl
 case h_2=>exact hl.elim
 rename_i e s1 b1 z1 ht
 split at hl
 case h_2=>exact hl.elim
 rename_i ei he
 split at hl
 case h_2=>exact hl.elim
 rename_i hsz hap
 have hsz:=Nat.le_of_ble_eq_true hsz
 have hs':=aggParts_spec hap hs
 have hti:=hT t _ ht
 have hei:=hT e _ he
 split at hl
 case h_2=>exact hl.elim
 rename_i lcells hfill0
 have hzs:ei.zv.cells.size=ei.size:=hei.zs
 have hrep0:((Array.range (len*ei.size)).map ((if len*ei.size=0 then #[] else ei.zv.cells)[· % (if len*ei.size=0 then (#[]:Array Value) else ei.zv.cells).size]!)).toList=rep len ei.zv.cells.toList:=by
  rw [← zeroCells_rep]
  unfold Builtin.zeroCells
  rw [hzs]
  by_cases h0:len*ei.size=0
  ·rw [h0];simp
  ·rw [if_neg h0,hzs]
 obtain⟨cells,hce⟩:∃ cells:Array Value,cells=lcells.toArray:=⟨_,rfl⟩
 have hfill:Instr.fill (fun i=>some (i*ei.size,ei.size)) ((Array.range (len*ei.size)).map ((if len*ei.size=0 then #[] else ei.zv.cells)[· % (if len*ei.size=0 then (#[]:Array Value) else ei.zv.cells).size]!)) ps=some cells:=by
  rw [hce];exact fillL_ok _ _ _ _ _ hrep0 hfill0
 have hl0:lcells=cells.toList:=by rw [hce]
 rw [hl0] at hl
 have hz:=zv_cells hT he
 generalize hz0:(if len*ei.size=0 then (#[]:Array Value) else ei.zv.cells)=z0 at hfill
 have hz0g:∀ u∈z0.toList,gS u=true:=by
  subst hz0
  split
  ·intro u hu;simp at hu
  ·exact hz
 have hrow:∀ u∈((Array.range (len*ei.size)).map (z0[· % z0.size]!)).toList,gS u=true:=by
  intro u hu
  simp only [Array.toList_map,List.mem_map] at hu
  obtain⟨j,hj,rfl⟩:=hu
  by_cases h0:z0.size=0
  ·have:j<len*ei.size:=by simpa using hj
   have:len*ei.size≠0:=by omega
   subst hz0
   rw [if_neg this] at h0
   have:=hei.zs
   have:=hei.pos
   omega
  ·have hlt:j % z0.size<z0.size:=Nat.mod_lt _ (by omega)
   have e1:z0[j % z0.size]! = z0[j % z0.size]:=getElem!_pos z0 _ hlt
   rw [e1]
   exact hz0g _ (by simp)
 have hfm:=fill_map (ι:=ι) (nx:=nx) _ ps _ cells hs' hfill
 have hrm:((Array.range (len*ei.size)).map (z0[· % z0.size]!)).map (trS ι)=(Array.range (len*ei.size)).map (z0[· % z0.size]!):=by
  apply Array.ext'
  rw [Array.toList_map,map_trS_of hrow]
 rw [hrm] at hfm
 have hcs:∀ v∈cells.toList,scS ι nx v:=fill_mem _ (scS ι nx) ps _ cells (fun v hv=>scS_g (hrow v hv)) (fun p hp v hv=>scA_cells (hs' p hp) v hv) hfill
 have hf:=H.fresh e (cells.map (trS ι)) cells.toList ei.size (by simp) hcs
 refine⟨_,_,_,_,_,hl,?_,hf,?_,fun k hk=>ins_lt _ _ hk,by omega,?_⟩
 ·simp [scT,scA,scS,scP,ins_same,Loc.isAt]
 ·exact (below_alloc w _).mono H.size
 ·simp only [Instr.buildSlice,Sem.run_bind,run_underlying (hti.sl rfl),Result.andThen_ok,hei.sizeOf,Sem.run_ite]
  rw [if_neg (by omega)]
  by_cases h0:len*ei.size=0
  ·rw [if_pos h0] at hz0
   subst hz0
   simp only [h0,if_true,Sem.run_pure,Result.andThen_ok] at hfm ⊢
   rw [hfm]
   simp [newRow,tr,trA,trS,trP,ins_same]
  ·rw [if_neg h0] at hz0
   subst hz0
   simp only [h0,if_false,Sem.run_bind,hei.zero,Result.andThen_ok,Sem.run_pure,hfm]
   simp [newRow,tr,trA,trS,trP,ins_same]
end
end Go.Aw
end

noncomputable section
namespace Go.Aw
open Go.RowKit
def rem (h:Heap)(k:Nat):Heap :=
 match h with
 |[]=>[]
 |(j,o)::r=>match Nat.beq j k with|true=>rem r k|false=>(j,o)::rem r k
theorem look_rem (h:Heap)(k j:Nat):look (rem h k) j=if j=k then none else look h j:=by
 induction h with
 |nil=>simp [rem,look_nil]
 |cons x r ih =>
  obtain⟨i,o⟩:=x
  by_cases hik:i=k
  ·subst hik
   have e1:rem ((i,o)::r) i=rem r i:=by simp [rem]
   rw [e1,ih]
   by_cases hji:j=i
   ·rw [if_pos hji,if_pos hji]
   ·have:i.beq j=false:=by
     cases hb:i.beq j with
     |false=>rfl
     |true=>exact absurd (beq_true hb).symm hji
    rw [if_neg hji,if_neg hji]
    simp only [look_cons,this]
  ·have hb:i.beq k=false:=by
    cases hb:i.beq k with
    |false=>rfl
    |true=>exact absurd (beq_true hb) hik
   have e1:rem ((i,o)::r) k=(i,o)::rem r k:=by simp only [rem,hb]
   rw [e1]
   simp only [look_cons]
   cases hij:i.beq j with
   |true =>
    have:=beq_true hij
    subst this
    rw [if_neg hik]
   |false=>exact ih
section
variable {P:Program}{T:Tab}{ι:Nat→Loc}{B nx:Nat}{h:Heap}
theorem RelH.rem {w:World}(H:RelH ι B h nx w)(k:Nat):RelH ι B (rem h k) nx w:=by
 have key:∀ j o,look (Aw.rem h k) j=some o→look h j=some o:=fun j o hj=>by
  rw [look_rem] at hj
  split at hj
  ·cases hj
  ·exact hj
 exact⟨fun j o hj=>H.obj j o (key j o hj),fun j j' o o' h1 h2=>H.sep j j' o o' (key _ _ h1) (key _ _ h2),fun j o hj=>H.low j o (key _ _ hj),H.size,fun j o hj=>H.sc j o (key _ _ hj)⟩
structure Src (P:Program) (w:World) (size:Nat) (x:Value) (m:Nat) (news:List Value):Prop where
 len:(Builtin.lenOf x).run P w=.ok m w
 one:∀ c,(Builtin.firstCells size m x).run P { w with drawn:=c }=.ok news.toArray { w with drawn:=c }
theorem run_append_in {t u e:TypeId}{ty:TypeId}{i:TypeInfo}{d:TypeDesc}(ht:P.underlying t=some (.slice e))(hu:P.underlying u=some d)(hd:∀ k,d≠.int k)(hi:P.info? e=some i)
  (w:World) (base:Option Addr) (n c m:Nat) (x:Value) (news:List Value) (hx:Src P w i.size x m news) (hroom:n+m≤c) :
  (Builtin.append_ #[t,u] ty #[.slice base n c,x]).run P w =
   (match base with|some a=>(storeCells (a.add (n*i.size)) news).run P w|none=>.ok () w).andThen fun _ w'=>.ok (.slice base (n+m) c) w':=by
 have h1:=hx.len
 have h2:(Builtin.firstCells i.size m x).run P w=.ok news.toArray w:=hx.one w.drawn
 have hz:(match d with|.int _=>true|_=>false)=false:=by
  cases d <;> first|rfl|exact absurd rfl (hd _)
 cases base with
 |none=>simp [Builtin.append_,run_underlying ht,run_underlying hu,sizeOf,typeInfo,hi,hz,h1,h2,hroom]
 |some a=>simp [Builtin.append_,run_underlying ht,run_underlying hu,sizeOf,typeInfo,hi,hz,h1,h2,hroom]
theorem run_append_out {t u e:TypeId}{ty:TypeId}{i:TypeInfo}{z:Value}{d:TypeDesc}(ht:P.underlying t=some (.slice e))(hu:P.underlying u=some d)(hd:∀ k,d≠.int k)(hi:P.info? e=some i)(hz:i.zero=some z)
  (w:World) (base:Option Addr) (n c m:Nat) (x:Value) (news olds:List Value) (hx:Src P w i.size x m news) (ho:(Builtin.firstCells i.size n (.slice base n c)).run P w.drew=.ok olds.toArray w.drew)
  (hroom:c<n+m) (hb:i.bytes≤1000) (hm:n+m≤1000000000) :
  ∃ cap,n+m≤cap∧(Builtin.append_ #[t,u] ty #[.slice base n c,x]).run P w =
    .ok (.slice (some ⟨w.heap.size,0,none⟩) (n+m) cap) (w.drew.alloc (.cells (olds++news++(Builtin.zeroCells z.cells (cap - (n+m))).toList).toArray e)):=by
 have h1:=hx.len
 have h2:(Builtin.firstCells i.size m x).run P w.drew=.ok news.toArray w.drew:=hx.one (w.drawn+1)
 have hzz:(match d with|.int _=>true|_=>false)=false:=by
  cases d <;> first|rfl|exact absurd rfl (hd _)
 have hfit:Builtin.nextslicecap (n+m) c*i.bytes≤281474976710656:=growslice_fits hroom (by
  have:=Nat.mul_le_mul hm hb;omega)
 have hn:¬ (n+m≤c):=by omega
 have h63':¬ (9223372036854775807<((n:Int)+(m:Int))):=by omega
 have h48':¬ (281474976710656<Builtin.nextslicecap (n+m) c*i.bytes):=by omega
 refine⟨grownCap w (n+m) c e,grownCap_ge _ _ _ _,?_⟩
 simp [Builtin.append_,run_underlying ht,run_underlying hu,sizeOf,typeInfo,zeroValue,hi,hz,hzz,h1,h2,ho,hn,h63',h48',Question.forced,newRow,grownCap]
 congr 2
 apply Array.ext'
 simp [List.append_assoc]
end
end Go.Aw
end
