/-
  Parts of a proof. No condition.
-/
import Derived.Test.YticajjhjehljpaaGreatQAb
set_option linter.unusedSimpArgs false
set_option linter.unusedVariables false
noncomputable section
namespace Go.Aw
open Go.RowKit
section
variable {P:Program}{T:cF}{ι:Nat→Loc}{B nx:Nat}{h:Heap}
theorem R8 {v:Value}{r:List Value}{u:Value}(hu:UT aG.max v r=some u)(w:World):gS u=true∧(r.foldlM Builtin.max2 v).run P w=.ok u w:=by
 induction r generalizing v with
 |nil =>
  cases v <;> simp [UT] at hu
  subst hu;exact⟨rfl,by simp⟩
 |cons x r ih =>
  cases v <;> cases x <;> simp only [UT] at hu <;> try (cases hu;done)
  rename_i k a k' b;split at hu
  ·rename_i hk;have hk':=oW hk;subst hk';obtain⟨h1,h2⟩:=ih hu;refine⟨h1,?_⟩;rw [← h2];simp [List.foldlM_cons,Builtin.max2,aG]
  ·cases hu
theorem UH {v:Value}{r:List Value}{u:Value}(hu:UT aG.min v r=some u)(w:World):gS u=true∧(r.foldlM Builtin.min2 v).run P w=.ok u w:=by
 induction r generalizing v with
 |nil =>
  cases v <;> simp [UT] at hu
  subst hu;exact⟨rfl,by simp⟩
 |cons x r ih =>
  cases v <;> cases x <;> simp only [UT] at hu <;> try (cases hu;done)
  rename_i k a k' b;split at hu
  ·rename_i hk;have hk':=oW hk;subst hk';obtain⟨h1,h2⟩:=ih hu;refine⟨h1,?_⟩;rw [← h2];simp [List.foldlM_cons,Builtin.min2,aG]
  ·cases hu
theorem NO {f:Int→Int→Int}{v:Value}{r:List Value}{u:Value}(hu:UT f v r=some u):r.map (tr ι)=r∧tr ι v=v:=by
 induction r generalizing v with
 |nil =>
  cases v <;> simp [UT] at hu
  exact⟨rfl,rfl⟩
 |cons x r ih =>
  cases v <;> cases x <;> simp only [UT] at hu <;> try (cases hu;done)
  split at hu
  ·obtain⟨h1,_⟩:=ih hu;exact⟨by simp [h1,fT],rfl⟩
  ·cases hu
theorem LV (hT:cA P T){b:Builtin}{ts:Array TypeId}{vs:List Value}{K:Value→Prop}(hl:mS aG T b ts vs K)(hs:∀ v∈vs,eG ι nx v) :
  ∃ v,K v∧eG ι nx v∧∀ (ty:TypeId) (cs:Array Bool) w,aO ι B h nx w→(builtin b ts ty cs (vs.map (tr ι)).toArray).run P w=.ok (.value (tr ι v)) w:=by
 unfold mS at hl;split at hl
 ·rename_i t a n c hts;split at hl
  case h_2=>exact hl.elim
  rename_i e s1 b1 z1 ht;have hd:=(hT t _ ht).sl rfl;obtain⟨ts⟩:=ts;simp only at hts;subst hts;have hsl:∃ a' c',tr ι (.slice a n c)=.slice a' n c':=by
   cases a with
   |none=>exact⟨_,_,rfl⟩
   |some a =>
    simp only [tr,dS,bQ,dU];split
    ·exact⟨_,_,rfl⟩
    ·exact⟨_,_,rfl⟩
  obtain⟨a',c',hsl⟩:=hsl;exact⟨_,hl,by simp [eG,j0,fV,mW],fun ty cs w H=>by simp [builtin,hsl,Builtin.len_,run_underlying hd,goInt,fT,aG]⟩
 ·rename_i t n c hts;split at hl
  case h_2=>exact hl.elim
  rename_i e s1 b1 z1 ht;have hd:=(hT t _ ht).sl rfl;obtain⟨ts⟩:=ts;simp only at hts;subst hts;exact⟨_,hl,by simp [eG,j0,fV,mW],fun ty cs w H=>by simp [builtin,cX,Builtin.cap_,run_underlying hd,goInt,fT,aG]⟩
 ·rename_i x v r;obtain⟨u,hu,hK⟩:=cR hl;obtain⟨e1,e2⟩:=NO (ι:=ι) hu;refine⟨u,hK,dD (by
   have:=(R8 (P:=P) hu default).1;cases u <;> first|exact this|(simp [gS] at this)),fun ty cs w H=>?_⟩
  obtain⟨h1,h2⟩:=R8 (P:=P) hu w;have:tr ι u=u:=fU (by cases u <;> first|exact h1|(simp [gS] at h1));simp only [builtin,List.map_cons,e1,e2,Builtin.max_,Sem.run_bind,h2,Result.andThen_ok,Sem.run_pure,this]
 ·rename_i x v r;obtain⟨u,hu,hK⟩:=cR hl;obtain⟨e1,e2⟩:=NO (ι:=ι) hu;refine⟨u,hK,dD (by
   have:=(UH (P:=P) hu default).1;cases u <;> first|exact this|(simp [gS] at this)),fun ty cs w H=>?_⟩
  obtain⟨h1,h2⟩:=UH (P:=P) hu w;have:tr ι u=u:=fU (by cases u <;> first|exact h1|(simp [gS] at h1));simp only [builtin,List.map_cons,e1,e2,Builtin.min_,Sem.run_bind,h2,Result.andThen_ok,Sem.run_pure,this]
 ·exact hl.elim
theorem jL {m:Sem Value}{v:Value}(hm:AF P ι B nx h m v):eG ι nx v∧∀ w,aO ι B h nx w→(do pure (.value (← m)):Sem Next).run P w=.ok (.value (tr ι v)) w :=
 ⟨kU hm.1,fun w H=>by simp only [Sem.run_bind,hm.2 w H,Result.andThen_ok,Sem.run_pure]⟩
theorem sM {v:Value}(h:gS v=true):gT v=true:=by
 cases v <;> first|exact h|(simp [gS] at h)
theorem D2 (hT:cA P T){env:List (Nat × Value)}{a:Act}(he:cT ι nx env a){o:Oper}{K:Value→Prop}(hl:iH aG T env h o.op K){w0:World}(H0:aO ι B h nx w0) :
  ∃ v,K v∧eG ι nx v∧∀ w,aO ι B h nx w→(execOp a.eval o).run P w=.ok (.value (tr ι v)) w:=by
 obtain⟨dst,op,ty,pos,after,guard⟩:=o;simp only at hl;cases op <;> simp only [iH] at hl <;> try (exact hl.elim)
 case move x =>
  obtain⟨u,hu,hK⟩:=cR hl;obtain⟨e1,e2⟩:=he.cU hu;exact⟨u,hK,e2,fun w H=>by simp [execOp,e1]⟩
 case assign x =>
  obtain⟨u,hu,hK⟩:=cR hl;obtain⟨e1,e2⟩:=he.cU hu;exact⟨u,hK,e2,fun w H=>by simp [execOp,e1]⟩
 case pick c x y =>
  obtain⟨u,hu,hK⟩:=cR hl;obtain⟨e1,e2⟩:=he.cU hu;split at hK
  case h_2=>exact hK.elim
  rename_i t;rcases mQ hK with ⟨rfl,hb⟩|⟨rfl,hb⟩
  ·obtain⟨v,hv,hK⟩:=cR hb;obtain⟨e3,e4⟩:=he.cU hv;exact⟨v,hK,e4,fun w H=>by simp [execOp,e1,e3,pQ,asBool]⟩
  ·obtain⟨v,hv,hK⟩:=cR hb;obtain⟨e3,e4⟩:=he.cU hv;exact⟨v,hK,e4,fun w H=>by simp [execOp,e1,e3,pQ,asBool]⟩
 case build t ps =>
  split at hl
  case h_2=>exact hl.elim
  rename_i l hps;obtain⟨e1,e2⟩:=pW he hps;obtain⟨v,hv,hm⟩:=V1 (ι:=ι) (B:=B) (h:=h) hT hl e2;have e3:(ps.map fun p=>(p.1,a.eval p.2))=(l.map fun p=>(p.1,tr ι p.2)).toArray:=by
   apply Array.ext';simpa using e1
  rw [← e3] at hm;exact⟨v,hv,jL hm⟩
 case load t x =>
  obtain⟨u,hu,hK⟩:=cR hl;obtain⟨e1,e2⟩:=he.cU hu;obtain⟨v,hv,hm⟩:=N1 (P:=P) hT hK H0;rw [← e1] at hm;exact⟨v,hv,jL hm⟩
 case nilCheck x =>
  obtain⟨u,hu,hK⟩:=cR hl;obtain⟨e1,e2⟩:=he.cU hu;split at hK
  ·rename_i ad;refine⟨_,hK,e2,fun w H=>?_⟩;have:ad.block<nx∧(ι ad.block).gC=true:=e2;cases hι:ι ad.block with
   |nil p=>rw [hι] at this;cases this.2
   |lay b o e=>simp [execOp,e1,tr,dS,bQ,dU,hι]
  ·exact⟨_,hK,e2,fun w H=>by simp [execOp,e1,tr,dS,bQ,m7]⟩
  ·rename_i l fi c;refine⟨_,hK,e2,fun w H=>?_⟩;simp only [execOp,e1,tr,dS,bQ,m7];cases ι l <;> simp
  ·exact hK.elim
 case binOp op xt x y yt =>
  obtain⟨u,hu,hK⟩:=cR hl;obtain⟨v,hv,hK⟩:=cR hK;obtain⟨e1,e2⟩:=he.cU hu;obtain⟨e3,e4⟩:=he.cU hv;split at hK
  ·rename_i m c;obtain⟨r,h1,h2,h3⟩:=aBH (P:=P) (ι:=ι) (B:=B) (n:=m) (c:=c) (p:=x) (q:=y) hT hK;refine⟨r,h1,dD (sM h2),fun w H=>?_⟩;have:=h3 w H;simp only [execOp,e1,e3,cX,Sem.run_bind,fU (sM h2)] at this ⊢;rw [this];rfl
  obtain⟨r,h1,h2,h3⟩:=aC3 (P:=P) (ι:=ι) (p:=x) (q:=y) hT hK;refine⟨r,h1,dD (sM h2),fun w H=>?_⟩;have:=h3 w;simp only [execOp,e1,e3,Sem.run_bind,fU (sM h2)] at this ⊢;rw [this];rfl
 case unOp op xt x =>
  obtain⟨u,hu,hK⟩:=cR hl;obtain⟨e1,e2⟩:=he.cU hu;obtain⟨r,h1,h2,h3⟩:=aES (P:=P) (ι:=ι) hK;refine⟨r,h1,dD (sM h2),fun w H=>?_⟩;simp only [execOp,e1,Sem.run_bind,h3 w,Result.andThen_ok,Sem.run_pure,fU (sM h2)]
 case convert s d x =>
  obtain⟨u,hu,hK⟩:=cR hl;obtain⟨e1,e2⟩:=he.cU hu;split at hK
  case h_2=>exact hK.elim
  rename_i k0 n si k s1 b1 z1 hs hd;obtain⟨h1,h2⟩:=aD.1 hK;obtain⟨ds,hds,_⟩:=(hT s _ hs).desc;have hdd:=(hT d _ hd).int rfl;refine⟨_,h2,by simp [eG,j0,fV,mW],fun w H=>?_⟩;simp [execOp,e1,fT,convert,run_underlying hds,run_underlying hdd,Conv.intToInt,iA h1]
 case makeFunc fn first cap =>
  split at hl
  case h_2=>exact hl.elim
  rename_i f hfirst;split at hl
  case h_2=>exact hl.elim
  rename_i l hc;obtain⟨e1,e2⟩:=DO he hc;obtain⟨first⟩:=first;simp only at hfirst;subst hfirst;refine⟨_,hl,⟨trivial,fun v hv=>e2 v (by simpa using hv)⟩,fun w H=>?_⟩;have:cap.map a.eval=(l.map (dU ι)).toArray:=by
   apply Array.ext';simpa using e1
  simp [execOp,Instr.makeFunc,tr,dS,bQ,m7,this]
 case fieldAddr s x f =>
  obtain⟨u,hu,hK⟩:=cR hl;obtain⟨e1,e2⟩:=he.cU hu;have hx:j0 ι nx u:=by
   cases u <;> first|exact e2|(simp [gR] at hK)
  obtain⟨v,hv,hm⟩:=GF (P:=P) (B:=B) (h:=h) hT hK hx;rw [← e1] at hm;exact⟨v,hv,jL hm⟩
 case field s x f =>
  obtain⟨u,hu,hK⟩:=cR hl;obtain⟨e1,e2⟩:=he.cU hu;have hx:j0 ι nx u:=by
   cases u <;> first|exact e2|(simp [r7] at hK)
  obtain⟨v,hv,hm⟩:=WT (P:=P) (B:=B) (h:=h) hT hK hx;rw [← e1] at hm;exact⟨v,hv,jL hm⟩
 case indexAddr t x i =>
  obtain⟨u,hu,hK⟩:=cR hl;obtain⟨j,hj,hK⟩:=cR hK;obtain⟨e1,e2⟩:=he.cU hu;obtain⟨e3,e4⟩:=he.cU hj;have hx:j0 ι nx u:=by
   cases u <;> first|exact e2|(unfold gE at hK;split at hK <;> simp_all)
  obtain⟨v,hv,hm⟩:=F8 (P:=P) (B:=B) (h:=h) hT hK hx;rw [← e1,← e3] at hm;exact⟨v,hv,jL hm⟩
 case index t x i =>
  obtain⟨u,hu,hK⟩:=cR hl;obtain⟨j,hj,hK⟩:=cR hK;obtain⟨e1,e2⟩:=he.cU hu;obtain⟨e3,e4⟩:=he.cU hj;have hx:j0 ι nx u:=by
   cases u <;> first|exact e2|(unfold qO at hK;split at hK <;> simp_all)
  obtain⟨v,hv,hm⟩:=U8 (P:=P) (B:=B) (h:=h) hT hK hx;rw [← e1,← e3] at hm;exact⟨v,hv,jL hm⟩
 case extract x i =>
  obtain⟨u,hu,hK⟩:=cR hl;obtain⟨e1,e2⟩:=he.cU hu;split at hK
  case h_2=>exact hK.elim
  rename_i vs;obtain⟨v,hv,hK⟩:=cR hK;have hm:=e2 v (List.mem_of_getElem? hv);refine⟨v,hK,kU hm,fun w H=>?_⟩;have:(vs.map (dS ι))[i]? = some (dS ι v):=by
   rw [Array.getElem?_map,← Array.getElem?_toList,hv];rfl
  have hx:Instr.extract (tr ι (.tuple vs)) i=pure (dS ι v):=(by simp only [tr,Instr.extract,this]);simp only [execOp,e1,hx,Sem.run_bind,Sem.run_pure,Result.andThen_ok,sZ hm]
 case call c =>
  obtain⟨cal,args,ats⟩:=c;simp only at hl;split at hl
  case h_2=>exact hl.elim
  rename_i b;split at hl
  case h_2=>exact hl.elim
  rename_i vs hvs;obtain⟨e1,e2⟩:=kG he hvs;obtain⟨v,h1,h2,h3⟩:=LV (ι:=ι) (B:=B) (h:=h) hT hl e2;refine⟨v,h1,h2,fun w H=>?_⟩;have:args.map a.eval=(vs.map (tr ι)).toArray:=by
   apply Array.ext';simpa using e1
  rw [← this] at h3;simp only [execOp,resolve,Sem.run_bind,Sem.run_pure,Result.andThen_ok,invoke];exact h3 _ _ w H
end
structure rZ (w w':World) (b:Nat):Prop where
 os:w'.os=w.os
 tape:w'.tape=w.tape
 output:w'.output=w.output
 size:w'.heap.size=w.heap.size
 other:∀ c,c≠b→w'.heap[c]? = w.heap[c]?
 drawn:w'.drawn=w.drawn
theorem rZ.refl (w:World)(b:Nat):rZ w w b:=⟨rfl,rfl,rfl,rfl,fun _ _=>rfl,rfl⟩
theorem rZ.trans {a b c:World}{x:Nat}(h:rZ a b x)(k:rZ b c x):rZ a c x :=
 ⟨k.os.trans h.os,k.tape.trans h.tape,k.output.trans h.output,k.size.trans h.size,fun y hy=>(k.other y hy).trans (h.other y hy),k.drawn.trans h.drawn⟩
theorem rZ.below {w w':World}{b B:Nat}(h:rZ w w' b)(hb:B≤b):fQ B w w' :=
 ⟨h.os,h.tape,h.output,Nat.le_of_eq h.size.symm,fun k hk=>h.other k (by omega),Nat.le_of_eq h.drawn.symm⟩
theorem FZ (w:World){b o:Nat}{arr:Array Value}{t:TypeId}{fz:Nat × Nat}(v:Value)(hb:w.heap[b]? = some (.cells arr t fz)) :
  rZ w (w.setCell ⟨b,o,none⟩ v) b∧(w.setCell ⟨b,o,none⟩ v).heap[b]? = some (.cells (arr.setIfInBounds o v) t fz):=by
 refine⟨⟨rfl,rfl,rfl,by simp [World.setCell],fun c hc=>Go.RowKit.Below.heap_setCell _ _ _ _ hc,rfl⟩,?_⟩;simp [World.setCell,Array.getElem?_modify,hb]
theorem mC {P:Program}{b off:Nat}{t:TypeId}:∀ (vs:List Value) (i:Nat) (w:World) (arr:Array Value),(∀ v∈vs,v.oneCell'=true) →
  w.heap[b]? = some (.cells arr t (0,0))→off+i+vs.length≤arr.size →
  ∃ w' arr',(storeCells ⟨b,off,none⟩ vs i).run P w=.ok () w'∧rZ w w' b∧w'.heap[b]? = some (.cells arr' t (0,0))∧arr'.size=arr.size ∧
    ∀ j,arr'[j]? = if off+i≤j∧j<off+i+vs.length then vs[j - (off+i)]? else arr[j]?
 |[],i,w,arr,_,hb,_=>⟨w,arr,by simp [storeCells],rZ.refl _ _,hb,rfl,fun j=>by rw [if_neg (by simp only [List.length_nil];omega)]⟩
 |v::vs,i,w,arr,hv,hb,hs=>by
  simp only [List.length_cons] at hs;have hc:w.cell? ⟨b,off+i,none⟩=some (arr[off+i]'(by omega)):=by
   simp [World.cell?,hb]
  have hf:w.frozen? ⟨b,off+i,none⟩=false:=(by simp [World.frozen?,hb]);obtain⟨hw1,hb1⟩:=FZ (o:=off+i) w v hb;obtain⟨w',arr',h1,h2,h3,h4,h5⟩:=mC (P:=P) (off:=off) (t:=t) vs (i+1) (w.setCell ⟨b,off+i,none⟩ v) (arr.setIfInBounds (off+i) v) (fun u hu=>hv u (by simp [hu])) hb1 (by simp;omega);refine⟨w',arr',?_,hw1.trans h2,h3,by simp [h4],fun j=>?_⟩
  ·simp only [storeCells,Sem.run_bind];rw [Addr.add_lit,run_store _ _ _ _ _ (hv v (by simp)),hc];simp only [hf,Bool.false_eq_true,if_false,Result.andThen_ok,h1]
  ·rw [h5 j];simp only [List.length_cons];by_cases hj:j=off+i
   ·subst hj;rw [if_neg (by omega),if_pos (by omega)];rw [Array.getElem?_setIfInBounds_self_of_lt (by omega)];simp
   ·by_cases hj2:off+(i+1)≤j∧j<off+(i+1)+vs.length
    ·rw [if_pos hj2,if_pos (by omega)];rw [show j - (off+i)=(j - (off+(i+1)))+1 by omega];simp
    ·rw [if_neg hj2,if_neg (by omega)];rw [Array.getElem?_setIfInBounds_ne (by omega)]
def eC (cs:List Value)(o:Nat)(vs:List Value):List Value:=cs.take o++vs++cs.drop (o+vs.length)
theorem gO {cs vs:List Value}{o:Nat}(h:o+vs.length≤cs.length):(eC cs o vs).length=cs.length:=by
 simp [eC];omega
theorem MV {cs vs:List Value}{o:Nat}(h:o+vs.length≤cs.length)(j:Nat):(eC cs o vs)[j]? = if o≤j∧j<o+vs.length then vs[j - o]? else cs[j]? := by
 unfold eC;rw [List.append_assoc];by_cases h1:j<o
 ·rw [List.getElem?_append_left (by simp;omega),List.getElem?_take_of_lt h1,if_neg (by omega)]
 ·rw [List.getElem?_append_right (by simp;omega)];simp only [List.length_take];rw [Nat.min_eq_left (by omega)];by_cases h2:j<o+vs.length
  ·rw [List.getElem?_append_left (by omega),if_pos (by omega)]
  ·rw [List.getElem?_append_right (by omega),List.getElem?_drop,if_neg (by omega)];congr 1;omega
theorem aAd {cs vs:List Value}{o:Nat}{v:Value}(h:v∈eC cs o vs):v∈cs∨v∈vs:=by
 unfold eC at h;rcases List.mem_append.1 h with h|h
 ·rcases List.mem_append.1 h with h|h
  ·exact .inl (List.mem_of_mem_take h)
  ·exact .inr h
 ·exact .inl (List.mem_of_mem_drop h)
section
variable {P:Program}{T:cF}{ι:Nat→Loc}{B nx:Nat}{h:Heap}
theorem aO.put {w:World}(H:aO ι B h nx w){k:Nat}{g:Bool}{sz:Nat}{cs:List Value}(hk:look h k=some (.cells true g sz cs)){o:Nat}{vs:List Value}(ho:o+vs.length≤cs.length)
  (hs:∀ v∈vs,fV ι nx v) (hne:vs≠[]) :
  ∃ b off e w',ι k=.lay b off e∧(storeCells ⟨b,off+o,none⟩ (vs.map (bQ ι))).run P w=.ok () w'∧fQ B w w' ∧
    aO ι B (vS h k (.cells true false sz (eC cs o vs))) nx w':=by
 have hob:=H.obj k _ hk;have hlen:0<vs.length:=by cases vs with|nil=>exact absurd rfl hne|cons _ _=>simp
 cases hι:ι k with
 |nil =>
  rw [hι] at hob;have:cs=[]:=(show cs=[]∧_ from hob).1;subst this;simp only [List.length_nil] at ho;omega
 |lay b off e =>
  rw [hι] at hob;obtain⟨hB,_,arr,t,h1,h2,h3⟩:=hob;have hone:∀ v∈vs.map (bQ ι),v.oneCell'=true:=by
   intro v hv;obtain⟨u,hu,rfl⟩:=List.mem_map.1 hv;exact (qR (hs u hu)).1
  obtain⟨w',arr',e1,e2,e3,e4,e5⟩:=mC (P:=P) (off:=off+o) (vs.map (bQ ι)) 0 w arr hone h1 (by simp;omega);refine⟨b,off,e,w',rfl,e1,e2.below hB,?_⟩;refine H.set hk rfl ?_ ?_ rfl (fun c hc=>e2.other c (fun e=>hc (by rw [hι,e];rfl))) (Nat.le_of_eq e2.size.symm)
  ·rw [hι];refine⟨hB,by simp,arr',t,e3,?_,fun i v hv=>?_⟩
   ·rw [gO ho,e4];exact h2
   ·rw [MV ho] at hv;rw [e5];simp only [List.length_map,Nat.add_zero];by_cases hi:o≤i∧i<o+vs.length
    ·rw [if_pos hi] at hv;rw [if_pos (by omega),show off+i - (off+o)=i - o by omega,List.getElem?_map,hv];rfl
    ·rw [if_neg hi] at hv;rw [if_neg (by omega)];exact h3 i v hv
  ·intro v hv;rcases aAd hv with hv|hv
   ·exact H.sc k _ hk v hv
   ·exact hs v hv
theorem aO.fresh {w:World}(H:aO ι B h nx w)(t:TypeId)(arr:Array Value)(cs:List Value)(sz:Nat)(ha:arr.toList=cs.map (bQ ι))(hs:∀ v∈cs,fV ι nx v) :
  aO (ins ι nx (.lay w.heap.size 0 0)) B (cC h nx (.cells true false sz cs)) (nx+1) (w.alloc (.cells arr t)):=by
 have hsz:arr.size=cs.length:=(by rw [← Array.length_toList,ha,List.length_map]);refine H.new (.cells arr t) (.cells true false sz cs) ?_ ?_
 ·refine⟨H.size,by simp,arr,t,(MapKept.heap_alloc w _).1,by omega,fun i v hv=>?_⟩;rw [Nat.zero_add,← Array.getElem?_toList,ha,List.getElem?_map,hv];simp only [Option.map_some];rw [lF (ι:=ι) (fun k hk=>bY _ _ hk) (hs v (List.mem_of_getElem? hv))]
 ·intro v hv;exact gQ (by omega) (fun k hk=>bY _ _ hk) (hs v hv)
end
def rep (n:Nat)(zs:List Value):List Value:=(List.replicate n zs).flatten
theorem iT (z:Array Value)(n:Nat):(Builtin.zeroCells z n).toList=rep n z.toList:=by
 apply List.ext_getElem?;intro i;have hl:(rep n z.toList).length=n*z.size:=by
  unfold rep
  induction n with
  |zero=>simp
  |succ n ih=>rw [List.replicate_succ,List.flatten_cons,List.length_append,ih,Nat.succ_mul,Array.length_toList];omega
 have hg:∀ n i,i<n*z.size→(rep n z.toList)[i]? = z[i % z.size]? := by
  intro n
  induction n with
  |zero=>intro i hi;omega
  |succ n ih =>
   intro i hi;unfold rep;rw [List.replicate_succ,List.flatten_cons];by_cases h:i<z.size
   ·rw [List.getElem?_append_left (by simpa using h),Nat.mod_eq_of_lt h,Array.getElem?_toList]
   ·rw [List.getElem?_append_right (by simpa using Nat.le_of_not_lt h)];rw [Nat.succ_mul] at hi;have:=ih (i - z.size) (by omega);rw [show (List.replicate n z.toList).flatten=rep n z.toList from rfl,Array.length_toList,this];congr 1
    conv=>rhs;rw [show i=(i - z.size)+z.size by omega,Nat.add_mod_right]
 by_cases h:i<n*z.size
 ·rw [hg n i h];have h0:0<z.size:=Nat.pos_of_ne_zero (fun e=>by rw [e] at h;omega);have hlt:=Nat.mod_lt i h0;simp [Builtin.zeroCells,List.getElem?_range h,hlt]
 ·have e1:(Builtin.zeroCells z n).toList.length=n*z.size:=(by rw [Array.length_toList,size_zeroCells]);rw [List.getElem?_eq_none (by omega),List.getElem?_eq_none (by omega)]
abbrev KE:=Value→Heap→Nat→Prop
def mU (T:cF)(h:Heap)(nx:Nat)(t:TypeId)(x v:Value)(K:KE):Prop :=
 match x with
 |.pointer (some ⟨k,o,none⟩) =>
  (match look T t,look h k with
  |some ti,some (.cells true _ sz cs) =>
   (match Nat.beq v.cells.size ti.size,(match v with|.tuple _=>false|_=>true) with
   |true,true=>dI (Nat.ble (o+v.cells.size) cs.length) (K undef (vS h k (.cells true false sz (eC cs o v.cells.toList))) nx)
   |_,_=>False)
  |_,_=>False)
 |_=>False
def OX (h:Heap)(nx:Nat)(v:Value)(K:KE):Prop :=
 match v with
 |.tuple _=>False
 |v=>K (.pointer (some ⟨nx,0,none⟩)) (cC h nx (.cells true false 1 v.cells.toList)) (nx+1)
def uU (T:cF)(h:Heap)(nx:Nat)(t:TypeId)(K:KE):Prop :=
 match look T t with
 |some ti=>K (.pointer (some ⟨nx,0,none⟩)) (cC h nx (.cells true false 1 ti.zv.cells.toList)) (nx+1)
 |none=>False
def dQ (T:cF)(h:Heap)(nx:Nat)(t:TypeId)(len:Nat)(ps:List (Nat × Value))(K:KE):Prop :=
 match look T t with
 |some { kind:=.sl e,.. } =>
  (match look T e with
  |some ei =>
   (match Nat.ble (len*ei.size) 1000000,jN ps with
   |true,true =>
    (match AV (fun i=>some (i*ei.size,ei.size)) ps (rep len ei.zv.cells.toList) with
    |some cells=>K (.slice (some ⟨nx,0,none⟩) len len) (cC h nx (.cells true false ei.size cells)) (nx+1)
    |none=>False)
   |_,_=>False)
  |none=>False)
 |_=>False
section
variable {P:Program}{T:cF}{ι:Nat→Loc}{B nx:Nat}{h:Heap}
def JP (P:Program)(ι:Nat→Loc)(B nx:Nat)(w:World)(m:Sem Value)(K:KE):Prop :=
 ∃ v h' nx' ι' w',K v h' nx'∧eG ι' nx' v∧aO ι' B h' nx' w'∧fQ B w w'∧(∀ k,k<nx→ι' k=ι k)∧nx≤nx'∧m.run P w=.ok (tr ι' v) w'
theorem DI {v:Value}(h1:∀ c,v≠.tuple c)(h2:eG ι nx v):j0 ι nx v:=by
 cases v with
 |tuple c=>exact absurd rfl (h1 c)
 |_=>exact h2
theorem zJ {v:Value}(hv:j0 ι nx v):∀ u∈v.cells.toList,fV ι nx u:=by
 intro u hu;cases v with
 |agg c=>exact hv u hu
 |_ =>
  simp only [Value.cells,List.mem_singleton] at hu;subst hu;exact hv
theorem XJ (hT:cA P T){t:TypeId}{x v:Value}{K:KE}(hl:mU T h nx t x v K)(hv:eG ι nx v){w:World}(H:aO ι B h nx w) :
  ∃ h' w',K undef h' nx∧aO ι B h' nx w'∧fQ B w w'∧(Instr.storeAt t (tr ι x) (tr ι v)).run P w=.ok () w':=by
 unfold mU at hl;split at hl
 case h_2=>exact hl.elim
 rename_i k o;split at hl
 case h_2=>exact hl.elim
 rename_i ti g sz cs ht hk;split at hl
 case h_2=>exact hl.elim
 rename_i hsz htup;obtain⟨hb,hK⟩:=aD.1 hl;have hti:=hT t _ ht;have hsz:=Nat.eq_of_beq_eq_true hsz;have hb:=Nat.le_of_ble_eq_true hb;have hvA:j0 ι nx v:=DI (fun c e=>by rw [e] at htup;cases htup) hv;have hp:=hti.pos;obtain⟨b,off,e,w',hι,hrun,hbel,hrel⟩:=H.put (P:=P) hk (o:=o) (vs:=v.cells.toList) (by simpa using hb) (zJ hvA) (by
  intro e;have:v.cells.size=0:=(by rw [← Array.length_toList,e];rfl);omega)
 refine⟨_,w',hK,hrel,hbel,?_⟩;have hc:=w9 hvA;simp only [eS,hι,Instr.storeAt,Instr.sureAddr,Sem.run_bind,Sem.run_pure,Result.andThen_ok,storeVar,hti.sizeOf];rw [hc];simp only [Array.size_map,hsz,ne_eq,not_true_eq_false,if_false,Sem.run_ite,Array.toList_map];simpa using hrun
theorem aDu {t:TypeId}{v:Value}{K:KE}(hl:OX h nx v K)(hv:eG ι nx v){w:World}(H:aO ι B h nx w):JP P ι B nx w (Instr.box t (tr ι v)) K:=by
 have hK:(∀ c,v≠.tuple c)∧K (.pointer (some ⟨nx,0,none⟩)) (cC h nx (.cells true false 1 v.cells.toList)) (nx+1):=by
  unfold OX at hl;split at hl
  ·exact hl.elim
  ·rename_i hne;exact⟨hne,hl⟩
 obtain⟨hne,hK⟩:=hK;have hvA:=DI hne hv;have hf:=H.fresh t (tr ι v).cells v.cells.toList 1 (by rw [w9 hvA];simp) (zJ hvA);refine⟨_,_,_,_,_,hK,?_,hf,?_,fun k hk=>bY _ _ hk,by omega,?_⟩
 ·simp [eG,j0,fV,mW,bC,Loc.gC]
 ·exact (c7 w _).mono H.size
 ·simp [Instr.box,newVar,newRow,eS,bC]
theorem o7 (hT:cA P T){t:TypeId}{ti:OW}(ht:look T t=some ti):(∀ u∈ti.zv.cells.toList,gS u=true):=by
 have hg:=(hT t _ ht).zg;intro u hu;cases hz:ti.zv with
 |agg c=>rw [hz] at hu hg;exact a9 hg hu
 |_ =>
  rw [hz] at hu hg;simp only [Value.cells,List.mem_singleton] at hu;subst hu;exact hg
theorem mB {l:List Value}(h:∀ u∈l,gS u=true):l.map (bQ ι)=l:=bP (sU h)
theorem WB (hT:cA P T){t:TypeId}{K:KE}(hl:uU T h nx t K){w:World}(H:aO ι B h nx w):JP P ι B nx w (Instr.alloc t true (.tuple #[])) K:=by
 unfold uU at hl;split at hl
 case h_2=>exact hl.elim
 rename_i ti ht;have hti:=hT t _ ht;have hz:=o7 hT ht;have hf:=H.fresh t ti.zv.cells ti.zv.cells.toList 1 (by rw [mB hz]) (fun v hv=>cD (hz v hv));refine⟨_,_,_,_,_,hl,?_,hf,?_,fun k hk=>bY _ _ hk,by omega,?_⟩
 ·simp [eG,j0,fV,mW,bC,Loc.gC]
 ·exact (c7 w _).mono H.size
 ·simp [Instr.alloc,hti.zero,newVar,newRow,eS,bC]
theorem DW (hT:cA P T){t:TypeId}{len:Nat}{ps:List (Nat × Value)}{K:KE}(hl:dQ T h nx t len ps K)(hs:∀ p∈ps,eG ι nx p.2){w:World}(H:aO ι B h nx w) :
  JP P ι B nx w (Instr.buildSlice t len (ps.map fun p=>(p.1,tr ι p.2)).toArray) K:=by
 unfold dQ at hl;split at hl
 case h_2=>exact hl.elim
 rename_i e s1 b1 z1 ht;split at hl
 case h_2=>exact hl.elim
 rename_i ei he;split at hl
 case h_2=>exact hl.elim
 rename_i hsz hap;have hsz:=Nat.le_of_ble_eq_true hsz;have hs':=n8 hap hs;have hti:=hT t _ ht;have hei:=hT e _ he;split at hl
 case h_2=>exact hl.elim
 rename_i lcells hfill0;have hzs:ei.zv.cells.size=ei.size:=hei.zs;have hrep0:((Array.range (len*ei.size)).map ((if len*ei.size=0 then #[] else ei.zv.cells)[· % (if len*ei.size=0 then (#[]:Array Value) else ei.zv.cells).size]!)).toList=rep len ei.zv.cells.toList:=by
  rw [← iT];unfold Builtin.zeroCells;rw [hzs];by_cases h0:len*ei.size=0
  ·rw [h0];simp
  ·rw [if_neg h0,hzs]
 obtain⟨cells,hce⟩:∃ cells:Array Value,cells=lcells.toArray:=⟨_,rfl⟩;have hfill:Instr.fill (fun i=>some (i*ei.size,ei.size)) ((Array.range (len*ei.size)).map ((if len*ei.size=0 then #[] else ei.zv.cells)[· % (if len*ei.size=0 then (#[]:Array Value) else ei.zv.cells).size]!)) ps=some cells:=by
  rw [hce];exact FU _ _ _ _ _ hrep0 hfill0
 have hl0:lcells=cells.toList:=(by rw [hce]);rw [hl0] at hl;have hz:=o7 hT he;generalize hz0:(if len*ei.size=0 then (#[]:Array Value) else ei.zv.cells)=z0 at hfill;have hz0g:∀ u∈z0.toList,gS u=true:=by
  subst hz0;split
  ·intro u hu;simp at hu
  ·exact hz
 have hrow:∀ u∈((Array.range (len*ei.size)).map (z0[· % z0.size]!)).toList,gS u=true:=by
  intro u hu;simp only [Array.toList_map,List.mem_map] at hu;obtain⟨j,hj,rfl⟩:=hu;by_cases h0:z0.size=0
  ·have:j<len*ei.size:=(by simpa using hj);have:len*ei.size≠0:=(by omega);subst hz0;rw [if_neg this] at h0;have:=hei.zs;have:=hei.pos;omega
  ·have hlt:j % z0.size<z0.size:=Nat.mod_lt _ (by omega);have e1:z0[j % z0.size]! = z0[j % z0.size]:=getElem!_pos z0 _ hlt;rw [e1];exact hz0g _ (by simp)
 have hfm:=DV (ι:=ι) (nx:=nx) _ ps _ cells hs' hfill;have hrm:((Array.range (len*ei.size)).map (z0[· % z0.size]!)).map (bQ ι)=(Array.range (len*ei.size)).map (z0[· % z0.size]!):=by
  apply Array.ext';rw [Array.toList_map,mB hrow]
 rw [hrm] at hfm;have hcs:∀ v∈cells.toList,fV ι nx v:=C3 _ (fV ι nx) ps _ cells (fun v hv=>cD (hrow v hv)) (fun p hp v hv=>zJ (hs' p hp) v hv) hfill;have hf:=H.fresh e (cells.map (bQ ι)) cells.toList ei.size (by simp) hcs;refine⟨_,_,_,_,_,hl,?_,hf,?_,fun k hk=>bY _ _ hk,by omega,?_⟩
 ·simp [eG,j0,fV,mW,bC,Loc.gC]
 ·exact (c7 w _).mono H.size
 ·simp only [Instr.buildSlice,Sem.run_bind,run_underlying (hti.sl rfl),Result.andThen_ok,hei.sizeOf,Sem.run_ite];rw [if_neg (by omega)];by_cases h0:len*ei.size=0
  ·rw [if_pos h0] at hz0;subst hz0;simp only [h0,if_true,Sem.run_pure,Result.andThen_ok] at hfm ⊢;rw [hfm];simp [newRow,tr,dS,bQ,dU,bC]
  ·rw [if_neg h0] at hz0;subst hz0;simp only [h0,if_false,Sem.run_bind,hei.zero,Result.andThen_ok,Sem.run_pure,hfm];simp [newRow,tr,dS,bQ,dU,bC]
end
def rem (h:Heap)(k:Nat):Heap :=
 match h with
 |[]=>[]
 |(j,o)::r=>match Nat.beq j k with|true=>rem r k|false=>(j,o)::rem r k
theorem dF (h:Heap)(k j:Nat):look (rem h k) j=if j=k then none else look h j:=by
 induction h with
 |nil=>simp [rem,look_nil]
 |cons x r ih =>
  obtain⟨i,o⟩:=x;by_cases hik:i=k
  ·subst hik;have e1:rem ((i,o)::r) i=rem r i:=(by simp [rem]);rw [e1,ih];by_cases hji:j=i
   ·rw [if_pos hji,if_pos hji]
   ·have:i.beq j=false:=by
     cases hb:i.beq j with
     |false=>rfl
     |true=>exact absurd (beq_true hb).symm hji
    rw [if_neg hji,if_neg hji];simp only [aB,this]
  ·have hb:i.beq k=false:=by
    cases hb:i.beq k with
    |false=>rfl
    |true=>exact absurd (beq_true hb) hik
   have e1:rem ((i,o)::r) k=(i,o)::rem r k:=(by simp only [rem,hb]);rw [e1];simp only [aB];cases hij:i.beq j with
   |true =>
    have:=beq_true hij;subst this;rw [if_neg hik]
   |false=>exact ih
section
variable {P:Program}{T:cF}{ι:Nat→Loc}{B nx:Nat}{h:Heap}
theorem aO.rem {w:World}(H:aO ι B h nx w)(k:Nat):aO ι B (rem h k) nx w:=by
 have key:∀ j o,look (Aw.rem h k) j=some o→look h j=some o:=fun j o hj=>by
  rw [dF] at hj;split at hj
  ·cases hj
  ·exact hj
 exact⟨fun j o hj=>H.obj j o (key j o hj),fun j j' o o' h1 h2=>H.sep j j' o o' (key _ _ h1) (key _ _ h2),fun j o hj=>H.low j o (key _ _ hj),H.size,fun j o hj=>H.sc j o (key _ _ hj)⟩
structure Src (P:Program) (w:World) (size:Nat) (x:Value) (m:Nat) (news:List Value):Prop where
 len:(Builtin.lenOf x).run P w=.ok m w
 one:∀ c,(Builtin.firstCells size m x).run P { w with drawn:=c }=.ok news.toArray { w with drawn:=c }
theorem iQ {t u e:TypeId}{ty:TypeId}{i:TypeInfo}{d:TypeDesc}(ht:P.underlying t=some (.slice e))(hu:P.underlying u=some d)(hd:∀ k,d≠.int k)(hi:P.info? e=some i)
  (w:World) (base:Option Addr) (n c m:Nat) (x:Value) (news:List Value) (hx:Src P w i.size x m news) (hroom:n+m≤c) :
  (Builtin.append_ #[t,u] ty #[.slice base n c,x]).run P w =
   (match base with|some a=>(storeCells (a.add (n*i.size)) news).run P w|none=>.ok () w).andThen fun _ w'=>.ok (.slice base (n+m) c) w':=by
 have h1:=hx.len;have h2:(Builtin.firstCells i.size m x).run P w=.ok news.toArray w:=hx.one w.drawn;have hz:(match d with|.int _=>true|_=>false)=false:=by
  cases d <;> first|rfl|exact absurd rfl (hd _)
 cases base with
 |none=>simp [Builtin.append_,run_underlying ht,run_underlying hu,sizeOf,typeInfo,hi,hz,h1,h2,hroom]
 |some a=>simp [Builtin.append_,run_underlying ht,run_underlying hu,sizeOf,typeInfo,hi,hz,h1,h2,hroom]
theorem DD {t u e:TypeId}{ty:TypeId}{i:TypeInfo}{z:Value}{d:TypeDesc}(ht:P.underlying t=some (.slice e))(hu:P.underlying u=some d)(hd:∀ k,d≠.int k)(hi:P.info? e=some i)(hz:i.zero=some z)
  (w:World) (base:Option Addr) (n c m:Nat) (x:Value) (news olds:List Value) (hx:Src P w i.size x m news) (ho:(Builtin.firstCells i.size n (.slice base n c)).run P w.drew=.ok olds.toArray w.drew)
  (hroom:c<n+m) (hb:i.bytes≤1000) (hm:n+m≤1000000000) :
  ∃ cap,n+m≤cap∧(Builtin.append_ #[t,u] ty #[.slice base n c,x]).run P w =
    .ok (.slice (some ⟨w.heap.size,0,none⟩) (n+m) cap) (w.drew.alloc (.cells (olds++news++(Builtin.zeroCells z.cells (cap - (n+m))).toList).toArray e)):=by
 have h1:=hx.len;have h2:(Builtin.firstCells i.size m x).run P w.drew=.ok news.toArray w.drew:=hx.one (w.drawn+1);have hzz:(match d with|.int _=>true|_=>false)=false:=by
  cases d <;> first|rfl|exact absurd rfl (hd _)
 have hfit:Builtin.nextslicecap (n+m) c*i.bytes≤281474976710656:=growslice_fits hroom (by
  have:=Nat.mul_le_mul hm hb;omega)
 have hn:¬ (n+m≤c):=(by omega);have h63':¬ (9223372036854775807<((n:Int)+(m:Int))):=(by omega);have h48':¬ (281474976710656<Builtin.nextslicecap (n+m) c*i.bytes):=(by omega);refine⟨grownCap w (n+m) c e,grownCap_ge _ _ _ _,?_⟩;simp [Builtin.append_,run_underlying ht,run_underlying hu,sizeOf,typeInfo,zeroValue,hi,hz,hzz,h1,h2,ho,hn,h63',h48',Question.forced,newRow,grownCap];congr 2;apply Array.ext';simp [List.append_assoc]
end
end Go.Aw
end
