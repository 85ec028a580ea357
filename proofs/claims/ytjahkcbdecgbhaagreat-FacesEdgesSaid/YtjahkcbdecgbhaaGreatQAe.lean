/-
  Parts of the proof, put together. No condition.
-/
import Derived.Test.YtjahkcbdecgbhaaGreatQAd
import Derived.Laws.MakeOwn
set_option linter.unusedSimpArgs false
set_option linter.unusedVariables false
noncomputable section
namespace Go.Aw
open Go.RowKit
section
variable {P:Program}{T:cM}{ι:Nat→Loc}{B nx:Nat}{h:Heap}
theorem GH {sz m:Nat}{src:List Value}(h1:src.length=m*sz)(h0:m=0):src=[]:=by
 subst h0;cases src with
 |nil=>rfl
 |cons a r=>simp at h1
theorem oR {st xt e:TypeId}{ei si:PB}{d:TypeDesc}(hds:P.underlying st=some (.slice e))(hdx:P.underlying xt=some d)(hd:∀ k,d≠.int k)(hT:cH P T)(he:look T e=some ei)(hby:ei.bytes≤1000)
  {ty:TypeId} {x:Value} {m:Nat} {src olds:List Value} (hlen:src.length=m*ei.size) (hsc:∀ v∈src,gY ι nx v)
  {w:World} (H:aS ι B h nx w) (hsrc:Src P w ei.size x m (src.map (bR ι))) {base:Option Addr} {n c:Nat} (hlo:olds.length=n*ei.size) (hos:∀ v∈olds,gY ι nx v)
  (hold:(Builtin.firstCells ei.size n (.slice base n c)).run P w.drew=.ok (olds.map (bR ι)).toArray w.drew) (hroom:c<n+m) (hm:n+m≤1000000000) {K:KE}
  (hK:K (.slice (some ⟨nx,0,none⟩) (n+m) (n+m)) (bV h nx (.cells true false ei.size (olds++src))) (nx+1)) :
  JI P ι B nx w (Builtin.append_ #[st,xt] ty #[.slice base n c,x]) K:=by
 have hei:=hT e _ he;obtain⟨inf,hi,h1,h2,h3⟩:=hei.info;obtain⟨cap,hc,hrun⟩:=DL (ty:=ty) hds hdx hd hi h3 w base n c m x (src.map (bR ι)) (olds.map (bR ι)) (by rw [h1];exact hsrc) (by rw [h1];exact hold) hroom (by omega) hm;have H':aS ι B h nx w.drew:=H.drawn _;have hg:=H'.grown e (olds++src) ei.size cap (n+m) (Builtin.zeroCells ei.zv.cells (cap - (n+m))).toList (by
  rw [Array.length_toList,size_zeroCells,hei.zs]) (by
  intro v hv;rcases List.mem_append.1 hv with hv|hv
  ·exact hos v hv
  ·exact hsc v hv)
 refine⟨_,_,_,_,_,hK,?_,hg,?_,fun k hk=>cE _ _ hk,by omega,?_⟩
 ·simp [eR,kP,gY,oS,bG,Loc.gJ]
 ·exact gO.trans (⟨rfl,rfl,rfl,Nat.le_refl _,fun _ _=>rfl,Nat.le_succ _⟩:gO B w w.drew) ((dD w.drew _).mono H.size)
 ·rw [hrun];simp only [tr,dP,bR,dR,bG,List.map_append,Nat.add_zero];congr 2
  ·omega
theorem HE (hT:cH P T){t:TypeId}{l c:Value}{K:KE}(hl:jY aB T h nx t l c K){w:World}(H:aS ι B h nx w) :
  JI P ι B nx w (Instr.makeSlice t (tr ι l) (tr ι c)) K:=by
 unfold jY at hl;split at hl
 case h_2=>exact hl.elim
 rename_i e s1 b1 z1 i j ht;split at hl
 case h_2=>exact hl.elim
 rename_i ei he;obtain⟨hb,hK⟩:=aG.1 hl;simp only [aB,Bool.and_eq_true,decide_eq_true_eq] at hb hK;obtain⟨⟨hb1,hb2⟩,hb3,hb4⟩:=hb;have hb4:=Nat.le_of_ble_eq_true hb4;have hts:=(hT t _ ht).sl rfl;have hei:=hT e _ he;obtain⟨inf,hi,hi1,hi2,hi3⟩:=hei.info;have hz:=p9 hT he;have hrep:∀ v∈rep j.toNat ei.zv.cells.toList,gS v=true:=by
  intro v hv;simp only [rep,List.mem_flatten,List.mem_replicate] at hv;obtain⟨l,⟨_,rfl⟩,hv⟩:=hv;exact hz v hv
 have hcells:madeCells ei.zv.cells (j.toNat*inf.size)=(rep j.toNat ei.zv.cells.toList).toArray:=by
  have:=jR ei.zv.cells j.toNat;rw [← this,hi1,← hei.zs];rfl
 have h3:(inf.bytes:Int)*j≤281474976710656:=by
  have h3:inf.bytes*j.toNat≤1000*1000000000:=Nat.mul_le_mul (by omega) (by omega);have h4:((inf.bytes*j.toNat:Nat):Int)=inf.bytes*j:=(by rw [Int.natCast_mul,Int.toNat_of_nonneg (by omega)]);omega
 have hrun:=run_make (P:=P) w t e inf ei.zv hts hi hi3 .i64 .i64 i j hb1 hb2 h3 (by omega);have hf:=H.fresh e (madeCells ei.zv.cells (j.toNat*inf.size)) (rep j.toNat ei.zv.cells.toList) ei.size (by rw [hcells,nJ hrep]) (fun v hv=>cR (hrep v hv));refine⟨_,_,_,_,_,hK,?_,hf,?_,fun k hk=>cE _ _ hk,by omega,?_⟩
 ·simp [eR,kP,gY,oS,bG,Loc.gJ]
 ·exact (dD w _).mono H.size
 ·rw [gR,gR,hrun];simp [tr,dP,bR,dR,bG]
theorem QJ (hT:cH P T){st xt ty:TypeId}{s x:Value}{K:KE}(hl:lK aB T h nx st xt s x K)(hs:eR ι nx s)(hx:eR ι nx x){w:World}(H:aS ι B h nx w) :
  JI P ι B nx w (Builtin.append_ #[st,xt] ty #[tr ι s,tr ι x]) K:=by
 unfold lK at hl;split at hl
 case h_3=>exact hl.elim
 case h_1 =>
  rename_i e s1 b1 z1 ik s2 b2 z2 hst hxt;split at hl
  case h_2=>exact hl.elim
  rename_i ei he;split at hl
  case h_2=>exact hl.elim
  rename_i i hby
  have hby:=Nat.le_of_ble_eq_true hby
  obtain⟨hb,hK⟩:=aG.1 hl;simp only [aB,Bool.and_eq_true,decide_eq_true_eq] at hb hK;have hds:=(hT st _ hst).sl rfl;have hdx:=(hT xt _ hxt).int rfl;have hei:=hT e _ he;obtain⟨inf,hi,hi1,hi2,hi3⟩:=hei.info;have hz:=p9 hT he;have hrep:∀ v∈rep i.toNat ei.zv.cells.toList,gS v=true:=by
   intro v hv;simp only [rep,List.mem_flatten,List.mem_replicate] at hv;obtain⟨l,⟨_,rfl⟩,hv⟩:=hv;exact hz v hv
  have hg:=(H.drawn (w.drawn+1)).grown e (rep i.toNat ei.zv.cells.toList) ei.size (grownCap w i.toNat 0 e) i.toNat (Builtin.zeroCells ei.zv.cells (grownCap w i.toNat 0 e - i.toNat)).toList (by
   rw [Array.length_toList,size_zeroCells,hei.zs]) (fun v hv=>cR (hrep v hv))
  refine⟨_,_,_,_,_,hK,?_,hg,?_,fun k hk=>cE _ _ hk,by omega,?_⟩
  ·simp [eR,kP,gY,oS,bG,Loc.gJ]
  ·exact gO.trans (⟨rfl,rfl,rfl,Nat.le_refl _,fun _ _=>rfl,Nat.le_succ _⟩:gO B w w.drew) ((dD w.drew _).mono H.size)
  ·have hn0:i.toNat≠0:=(by omega);have hpos:=hei.pos;have hns:¬ (i.toNat*ei.size=0):=Nat.pos_iff_ne_zero.1 (Nat.mul_pos (by omega) hpos);have hwr:IntKind.i64.wrap i=i:=IntWalk.i64_in i ⟨by omega,by omega⟩;have hfit:Builtin.nextslicecap i.toNat 0*inf.bytes≤281474976710656:=growslice_fits (by omega) (by
    have:=Nat.mul_le_mul (show i.toNat≤1000000000 by omega) (show inf.bytes≤1000 by omega);omega)
   have c1:¬ (i<0):=(by omega);have c2:¬ (281474976710656<i*(inf.bytes:Int)):=by
    have h3:i.toNat*inf.bytes≤1000000000*1000:=Nat.mul_le_mul (by omega) (by omega);have h4:((i.toNat*inf.bytes:Nat):Int)=i*inf.bytes:=(by rw [Int.natCast_mul,Int.toNat_of_nonneg (by omega)]);omega
   have c3:¬ (i.toNat=0):=hn0;have c4:¬ (9223372036854775807<(i.toNat:Int)):=(by omega);have c5:¬ (281474976710656<Builtin.nextslicecap i.toNat 0*inf.bytes):=(by omega);have c6:¬ (i.toNat=0∨inf.size=0):=(by omega);have hz':(Builtin.zeroCells ei.zv.cells i.toNat).toList=rep i.toNat ei.zv.cells.toList:=jR _ _;rw [c7,gR];simp only [tr,dP,bR,dR,bG,Nat.add_zero];simp [Builtin.append_,run_underlying hds,run_underlying hdx,sizeOf,typeInfo,zeroValue,asInt,asIntOf,hi,hi3,hwr,c1,c2,c3,c4,c5,c6,Question.forced,newRow,grownCap,Builtin.firstCells,nJ hrep];have d1:¬ (i≤0):=(by omega);have d2:¬ (9223372036854775807<max i 0):=(by omega);have d3:¬ (i.toNat*inf.size=0):=(by rw [hi1];exact hns);have d4:i.toNat+(grownCap w i.toNat 0 e - i.toNat)=grownCap w i.toNat 0 e:=by
    have:=grownCap_ge w i.toNat 0 e;omega
   simp only [grownCap] at d4;rw [if_neg d1,if_neg d2,if_neg d3,d4,← hz',← Array.toList_append]
 rename_i e s1 b1 z1 e' s2 b2 z2 hst hxt;split at hl
 ·exact hl.elim
 rename_i ei he;split at hl
 ·exact hl.elim
 rename_i hby
 have hby:=Nat.le_of_ble_eq_true hby
 have hds:=(hT st _ hst).sl rfl;have hdx:=(hT xt _ hxt).sl rfl;have hd:∀ k,TypeDesc.slice e'≠.int k:=fun k e=>(by cases e);have hei:=hT e _ he;obtain⟨inf,hi,hi1,hi2,hi3⟩:=hei.info;obtain⟨m,src,hG,hlen,hsc,hsrc⟩:=aDA (P:=P) hl hx H;have hfirst0:∀ (p:Option Addr),(Builtin.firstCells ei.size 0 (.slice p 0 0)).run P w.drew=.ok (([]:List Value).map (bR ι)).toArray w.drew:=by
  intro p;cases p <;> simp [Builtin.firstCells,loadCells,loadCellsFrom]
 split at hG
 ·rcases nM hG with ⟨hm,hK⟩|⟨hm,hK⟩
  ·have hm:=beq_true hm;have:=GH hlen hm;subst this;subst hm;refine⟨_,_,_,ι,w,hK,by simp [eR,kP,gY,oS],H,gO.refl _ _,fun _ _=>rfl,Nat.le_refl _,?_⟩;rw [c7,jM hds hdx hd hi w none 0 0 0 (tr ι x) [] (by rw [hi1];exact hsrc) (by omega)];rfl
  ·obtain⟨h1,hK⟩:=aG.1 hK;have hm:=beq_false hm;have h1:=Nat.le_of_ble_eq_true h1;rw [c7];exact oR (si:=ei) (olds:=[]) hds hdx hd hT he hby hlen hsc H hsrc (by simp) (by simp) (hfirst0 none) (by omega) (by omega) (by simpa using hK)
 ·rename_i k o n c;have hs':k<nx∧((ι k).gJ=false→n=0∧c=0):=hs;split at hG
  ·rename_i hk;split at hG
   case h_2=>exact hG.elim
   have hob:=H.obj k _ hk;cases hι:ι k with
   |lay b off ex=>rw [hι] at hob;exact hob.elim
   |nil p =>
    have htr:tr ι (.slice (some ⟨k,o,none⟩) 0 0)=.slice p 0 0:=(by simp [tr,dP,bR,dR,hι]);rw [htr];rcases nM hG with ⟨hm,hK⟩|⟨hm,hK⟩
    ·have hm:=beq_true hm;have:=GH hlen hm;subst this;subst hm;refine⟨_,_,_,ι,w,hK,hs,H,gO.refl _ _,fun _ _=>rfl,Nat.le_refl _,?_⟩;rw [htr,jM hds hdx hd hi w p 0 0 0 (tr ι x) [] (by rw [hi1];exact hsrc) (by omega)];cases p <;> simp [storeCells]
    ·obtain⟨h1,hK⟩:=aG.1 hK;have hm:=beq_false hm;have h1:=Nat.le_of_ble_eq_true h1;exact oR (si:=ei) (olds:=[]) hds hdx hd hT he hby hlen hsc H hsrc (by simp) (by simp) (hfirst0 p) (by omega) (by omega) (by simpa using hK)
  ·rename_i g sz cs hk;rcases nM hG with ⟨hm,hK⟩|⟨hm,hK⟩
   ·obtain⟨hb,hK⟩:=aG.1 hK;have hb:=Nat.le_of_ble_eq_true hb;have hm:=Nat.le_of_ble_eq_true hm;have hmul:(n+m)*ei.size=n*ei.size+m*ei.size:=Nat.add_mul _ _ _;cases hι:ι k with
    |nil p =>
     obtain⟨rfl,rfl⟩:=hs'.2 (by rw [hι];rfl);have hm0:m=0:=(by omega);have:=GH hlen hm0;subst this;subst hm0;have htr:tr ι (.slice (some ⟨k,o,none⟩) 0 0)=.slice p 0 0:=(by simp [tr,dP,bR,dR,hι]);rw [N8] at hK;refine⟨_,_,_,ι,w,hK,by exact⟨hs'.1,fun _=>⟨rfl,rfl⟩⟩,?_,gO.refl _ _,fun _ _=>rfl,Nat.le_refl _,?_⟩
     ·refine H.set hk rfl ?_ (fun v hv=>H.OG hk hv) rfl (fun _ _=>rfl) (Nat.le_refl _);have hob:=H.obj k _ hk;rw [hι] at hob ⊢;exact hob
     ·rw [htr,jM hds hdx hd hi w p 0 0 0 (tr ι x) [] (by rw [hi1];exact hsrc) (by omega)];cases p <;> simp [storeCells,tr,dP,bR,dR,hι]
    |lay b off ex =>
     obtain⟨w',h1,h2,h3⟩:=H.aIL (P:=P) hk hι (o:=o+n*ei.size) (vs:=src) (by omega) hsc;have htr:∀ n c,tr ι (.slice (some ⟨k,o,none⟩) n c)=.slice (some ⟨b,off+o,none⟩) n (c+ex):=fun n c=>(by simp [tr,dP,bR,dR,hι]);refine⟨_,_,_,ι,w',hK,⟨hs'.1,fun h=>by rw [hι] at h;cases h⟩,h3,h2,fun _ _=>rfl,Nat.le_refl _,?_⟩;rw [htr,htr,jM hds hdx hd hi w (some ⟨b,off+o,none⟩) n (c+ex) m (tr ι x) (src.map (bR ι)) (by rw [hi1];exact hsrc) (by omega)];simp only [hi1,Addr.add_lit,Nat.add_assoc] at h1 ⊢;rw [h1];rfl
   ·obtain⟨hb,hK'⟩:=aG.1 hK;clear hK;simp only [aB,Bool.and_eq_true] at hb;obtain⟨⟨hb1,hb2⟩,hb3,hb4⟩:=hb;have hb1:=Nat.le_of_ble_eq_true hb1;have hb2:=Nat.le_of_ble_eq_true hb2;have hb3:=beq_true hb3;have hb4:=beq_true hb4;subst hb4;have hm:¬ (n+m≤c):=fun hle=>by
     have:=Nat.ble_eq_true_of_le hle;rw [hm] at this;cases this
    have hmul:(n+m)*ei.size=n*ei.size+m*ei.size:=Nat.add_mul _ _ _;have hoc:∀ v∈(cs.drop o).take (n*ei.size),gY ι nx v:=fun v hv=>H.OG hk (List.mem_of_mem_drop (List.mem_of_mem_take hv));have hol:((cs.drop o).take (n*ei.size)).length=n*ei.size:=(by simp;omega);cases hι:ι k with
    |nil p =>
     obtain⟨rfl,rfl⟩:=hs'.2 (by rw [hι];rfl);have htr:tr ι (.slice (some ⟨k,o,none⟩) 0 0)=.slice p 0 0:=(by simp [tr,dP,bR,dR,hι]);rw [htr];refine oR (si:=ei) (olds:=[]) hds hdx hd hT he hby hlen hsc (H.rem k) hsrc (by simp) (by simp) (hfirst0 p) (by omega) (by omega) ?_;simpa using hK'
    |lay b off ex =>
     have htr:tr ι (.slice (some ⟨k,o,none⟩) n c)=.slice (some ⟨b,off+o,none⟩) n (c+ex):=(by simp [tr,dP,bR,dR,hι]);rw [htr];by_cases hin:n+m≤c+ex
     ·-- in place,beyond what was known
      have hob:=H.obj k _ hk;rw [hι] at hob;obtain⟨hB,_,arr,t,a1,a2,a3⟩:=hob;have hone:∀ v∈src.map (bR ι),v.oneCell'=true:=by
       intro v hv;obtain⟨u,hu,rfl⟩:=List.mem_map.1 hv;exact (tM (hsc u hu)).1
      have hroom2:(n+m)*ei.size≤(c+ex)*ei.size:=Nat.mul_le_mul_right _ hin;have hcx:(c+ex)*ei.size=c*ei.size+ex*ei.size:=Nat.add_mul _ _ _;obtain⟨w',arr',e1,e2,e3,e4,e5⟩:=nC (P:=P) (off:=off+(o+n*ei.size)) (src.map (bR ι)) 0 w arr hone a1 (by simp;omega);have Hr:aS ι B (rem h k) nx w':=by
       refine (H.rem k).AD (fun j o' b' hj hb'=>e2.other b' (fun e=>?_)) (Nat.le_of_eq e2.size.symm);subst e;rw [dF] at hj;split at hj
       ·cases hj
       ·rename_i hjk;exact H.sep k j _ o' hk hj (fun e=>hjk e.symm) rfl b' (by rw [hι];rfl) hb'
      have hnew:=Hr.add (.cells true false ei.size ((cs.drop o).take (n*ei.size)++src)) (.lay b (off+o) (c+ex - (n+m))) (by
       refine⟨hB,by simp,arr',t,e3,?_,fun i v hv=>?_⟩
       ·have:(c+ex - (n+m))*ei.size=(c+ex)*ei.size - (n+m)*ei.size:=Nat.sub_mul _ _ _;rw [e4,List.length_append,hol,hlen];omega
       ·rw [e5];simp only [List.length_map,Nat.add_zero];have hmem:=List.mem_of_getElem? hv;have hscv:gY ι nx v:=by
         rcases List.mem_append.1 hmem with hv|hv
         ·exact hoc v hv
         ·exact hsc v hv
        rw [l8 (fun k hk=>cE _ _ hk) hscv];by_cases hi':i<n*ei.size
        ·rw [List.getElem?_append_left (by omega)] at hv;rw [List.getElem?_take_of_lt hi',List.getElem?_drop] at hv;rw [if_neg (by omega),Nat.add_assoc];exact a3 _ v hv
        ·rw [List.getElem?_append_right (by omega),hol] at hv;have:=(List.getElem?_eq_some_iff.1 hv).1;rw [if_pos (by omega),show off+o+i - (off+(o+n*ei.size))=i - n*ei.size by omega,List.getElem?_map,hv];rfl) (by
       intro v hv;refine iQ (by omega) (fun k hk=>cE _ _ hk) ?_;rcases List.mem_append.1 hv with hv|hv
       ·exact hoc v hv
       ·exact hsc v hv) (by
       intro j o' hj _ b' hb';have:b=b':=(by simpa [Loc.CU] using hb');subst this;rw [dF] at hj;split at hj
       ·cases hj
       ·rename_i hjk;exact H.sep k j _ o' hk hj (fun e=>hjk e.symm) rfl b (by rw [hι];rfl))
      refine⟨_,_,_,_,w',hK',?_,hnew,e2.below hB,fun k hk=>cE _ _ hk,by omega,?_⟩
      ·simp [eR,kP,gY,oS,bG,Loc.gJ]
      ·rw [jM hds hdx hd hi w (some ⟨b,off+o,none⟩) n (c+ex) m (tr ι x) (src.map (bR ι)) (by rw [hi1];exact hsrc) hin];simp only [hi1,Addr.add_lit,Nat.add_assoc] at e1 ⊢;rw [e1];simp only [Result.andThen_ok,tr,dP,bR,dR,bG,Nat.add_zero];congr 2;omega
     ·refine oR (si:=ei) (olds:=(cs.drop o).take (n*ei.size)) hds hdx hd hT he hby hlen hsc (H.rem k) hsrc hol hoc ?_ (by omega) (by omega) hK';simp only [Builtin.firstCells];exact (H.drawn _).win hk hι (by omega)
  ·exact hG.elim
 ·exact hG.elim
end
def iU (T:cM)(cs:List Value):List (Nat × TypeId)→Bool
 |[]=>true
 |(o,t)::r=>match look T t,nth cs o with
  |some fi,some _=>(match fi.kind with
   |.int _=>iU T cs r
   |.bool=>iU T cs r
   |_=>false)
  |_,_=>false
def rS (A:Ar)(T:cM)(kt:TypeId)(key:Value):List (Value × Value)→Option (Option Value)
 |[]=>some none
 |(k,v)::r=>match veq A T 100 kt key k with
  |none=>none
  |some true=>some (some v)
  |some false=>rS A T kt key r
def N9 (h:Heap)(nx:Nat)(K:KE):Prop:=K (.map (some nx)) (bV h nx (.map [])) (nx+1)
def oP (A:Ar)(T:cM)(h:Heap)(t:TypeId)(x key:Value)(ok:Bool)(K:Value→Prop):Prop :=
 match look T t,x,key with
 |some { kind:=.mp kt et,.. },.map (some k),.agg cs =>
  (match look T kt,look T et,look h k with
  |some { kind:=.st fs,.. },some ei,some (.map es) =>
   (match iU T cs.toList fs,c9 cs.toList,rS A T kt (.agg cs) es with
   |true,true,some r =>
    (match ok,r with
    |true,some v=>K (.tuple #[v,.bool true])
    |true,none=>K (.tuple #[ei.zv,.bool false])
    |false,some v=>K v
    |false,none=>K ei.zv)
   |_,_,_=>False)
  |_,_,_=>False)
 |_,_,_=>False
def jZ (A:Ar)(T:cM)(h:Heap)(nx:Nat)(t:TypeId)(x key v:Value)(K:KE):Prop :=
 match look T t,x,key,(match v with|.agg _=>false|.tuple _=>false|_=>true) with
 |some { kind:=.mp kt _,.. },.map (some k),.agg cs,true =>
  (match look T kt,look h k with
  |some { kind:=.st fs,.. },some (.map es) =>
   (match iU T cs.toList fs,c9 cs.toList,rS A T kt (.agg cs) es with
   |true,true,some none=>K undef (wG h k (.map (es++[(.agg cs,v)]))) nx
   |_,_,_=>False)
  |_,_=>False)
 |_,_,_,_=>False
def wV (T:cM)(h:Heap)(nx:Nat)(t:TypeId)(x:Value)(K:KE):Prop :=
 match look T t,x with
 |some { kind:=.sl _,.. },.slice none 0 0=>K (.tuple #[]) h nx
 |some { kind:=.sl e,.. },.slice (some ⟨k,o,none⟩) n _ =>
  (match n with
  |0=>K (.tuple #[]) h nx
  |_=>(match look T e,look h k with
   |some ei,some (.cells true _ sz cs)=>dI (Nat.ble (o+n*ei.size) cs.length) (K (.tuple #[]) (wG h k (.cells true false sz (dM cs o (rep n ei.zv.cells.toList)))) nx)
   |_,_=>False))
 |_,_=>False
section
variable {P:Program}{T:cM}{ι:Nat→Loc}{B nx:Nat}{h:Heap}
theorem BK (hT:cH P T){t:TypeId}{fs:List (Nat × TypeId)}{s1 b1:Nat}{z1:Value}(ht:look T t=some ⟨.st fs,s1,b1,z1⟩){cs:Array Value}(hk:iU T cs.toList fs=true)(em:Bool)(d:Nat)(w:World) :
  (Instr.checkKey em (d+2) t (.agg cs)).run P w=.ok () w:=by
 have hti:=hT t _ ht;obtain⟨f,hd,hfs,hn⟩:=hti.st rfl;rw [show d+2=(d+1)+1 from rfl,Instr.checkKey];simp only [Sem.run_bind,run_underlying hd,Result.andThen_ok];rw [← Array.forIn_toList];subst hfs;clear hd ht hti;generalize f.toList=L at hk hn
 induction L with
 |nil=>simp
 |cons x L ih =>
  have hname : x.name ≠ "_" := hn x (by simp);simp only [List.map_cons,iU] at hk;split at hk
  case h_2=>cases hk
  rename_i fi v hfi hv;have hleaf:(∃ d,P.underlying x.type=some d∧((∃ k,d=.int k)∨d=.bool))∧fi.isAgg=false∧iU T cs.toList (L.map fun f=>(f.offset,f.type))=true:=by
   split at hk
   ·rename_i k hki;exact⟨⟨_,(hT _ _ hfi).int hki,.inl ⟨_,rfl⟩⟩,by simp [PB.isAgg,hki],hk⟩
   ·rename_i hki;exact⟨⟨_,(hT _ _ hfi).bool hki,.inr rfl⟩,by simp [PB.isAgg,hki],hk⟩
   ·cases hk
  obtain⟨⟨dd,hdd,hdk⟩,hagg,hk'⟩:=hleaf;have e1:=qM (P:=P) hT hfi hagg hv w;simp only [Array.toArray_toList] at e1;have e2:(Instr.checkKey em (d+1) x.type v).run P w=.ok () w:=by
   rw [Instr.checkKey];simp only [Sem.run_bind,run_underlying hdd,Result.andThen_ok];rcases hdk with ⟨k,rfl⟩|rfl <;> simp
  simp only [List.forIn_cons,Sem.run_bind,hname,ne_eq,not_false_eq_true,if_true,e1,Result.andThen_ok,e2,Sem.run_pure];exact ih hk' (fun y hy=>hn y (by simp [hy]))
theorem vT (hT:cH P T){kt:TypeId}{key:Value}:∀ (ents:List MapEntry) (es:List (Value × Value)) (f:Value→Value) (r:Option Value) (i:Nat),(∀ e∈es,gA e.1=true) →
  ents.map (fun e=>(e.key,e.val))=es.map (fun e=>(e.1,f e.2))→rS aB T kt key es=some r→∀ w,
  ∃ j,(Instr.findAsking kt key ents i).run P w=.ok (r.map fun v=>(j,f v)) w
 |[],es,f,r,i,hg,he,hr,w=>by
  cases es with
  |nil=>simp [rS] at hr;subst hr;exact⟨0,by simp [Instr.findAsking]⟩
  |cons a b=>simp at he
 |e::ents,es,f,r,i,hg,he,hr,w=>by
  cases es with
  |nil=>simp at he
  |cons a es =>
   obtain⟨k,v⟩:=a;simp only [List.map_cons,List.cons.injEq,Prod.mk.injEq] at he;obtain⟨⟨he1,he2⟩,he3⟩:=he;simp only [rS] at hr;split at hr
   ·cases hr
   ·rename_i hq;have:(Op.equal kt key k).run P w=.ok _ w:=RZ (P:=P) hT 100 _ _ _ _ hq 10000 (by omega) w;injection hr with hr;subst hr;refine⟨i,?_⟩;simp only [Instr.findAsking,Sem.run_bind,he1,this,Result.andThen_ok,if_true,Sem.run_pure,he2,Option.map_some]
   ·rename_i hq;have:(Op.equal kt key k).run P w=.ok _ w:=RZ (P:=P) hT 100 _ _ _ _ hq 10000 (by omega) w;obtain⟨j,hj⟩:=vT hT ents es f r (i+1) (fun e he=>hg e (by simp [he])) he3 hr w;refine⟨j,?_⟩;simp only [Instr.findAsking,Sem.run_bind,he1,this,Result.andThen_ok,Bool.false_eq_true,if_false,hj]
theorem DS (hT:cH P T){kt:TypeId}{fs:List (Nat × TypeId)}{s1 b1:Nat}{z1:Value}(ht:look T kt=some ⟨.st fs,s1,b1,z1⟩){key:Value}{ents:List MapEntry}{es:List (Value × Value)}{f:Value→Value}{r:Option Value}(hg:∀ e∈es,gA e.1=true)
  (he:ents.map (fun e=>(e.key,e.val))=es.map (fun e=>(e.1,f e.2))) (hr:rS aB T kt key es=some r) (w:World) :
  ∃ j,(Instr.findKey kt key ents).run P w=.ok (r.map fun v=>(j,f v)) w:=by
 obtain⟨fl,hd,_,_⟩:=(hT kt _ ht).st rfl;cases ents with
 |nil =>
  cases es with
  |nil=>simp [rS] at hr;subst hr;exact⟨0,by simp [Instr.findKey,run_underlying hd,Instr.findNow]⟩
  |cons a b=>simp at he
 |cons e ents =>
  obtain⟨j,hj⟩:=vT hT (e::ents) es f r 0 hg he hr w;exact⟨j,by simp [Instr.findKey,run_underlying hd,Instr.findNow,Instr.sameNow,hj]⟩
theorem MW {t:TypeId}{K:KE}(hl:N9 h nx K){w:World}(H:aS ι B h nx w):JI P ι B nx w (Instr.makeMap t none) K:=by
 have hf:=H.new (.map #[] 0) (.map []) ⟨H.size,#[],0,(MapKept.heap_alloc w _).1,by simp,by simp⟩ (by intro e he;cases he);refine⟨_,_,_,_,_,hl,?_,hf,?_,fun k hk=>cE _ _ hk,by omega,?_⟩
 ·simp [eR,kP,gY,oS,bG,Loc.gJ]
 ·exact (dD w _).mono H.size
 ·simp [Instr.makeMap,tr,dP,bR,dR,bG]
theorem FA (hT:cH P T){t:TypeId}{x key:Value}{ok:Bool}{K:Value→Prop}(hl:oP aB T h t x key ok K)(hx:eR ι nx x){w0:World}(H0:aS ι B h nx w0) :
  ∃ v,K v∧eR ι nx v∧∀ w,aS ι B h nx w→(Instr.lookup t (tr ι x) (tr ι key) ok).run P w=.ok (tr ι v) w:=by
 unfold oP at hl;split at hl
 case h_2=>exact hl.elim
 rename_i kt et s1 b1 z1 k cs ht;split at hl
 case h_2=>exact hl.elim
 rename_i fs s2 b2 z2 ei es hkt het hk;split at hl
 case h_2=>exact hl.elim
 rename_i r hkf hg hfind;have htr:tr ι (.agg cs)=.agg cs:=iB (by simpa [gT,gA] using hg);have hm:=(hT t _ ht).mp rfl;have hei:=hT et _ het;have hx':k<nx∧(ι k).gJ=true:=hx;have hz:kP ι nx ei.zv:=OI hei.zg
 have hrun:∀ w,aS ι B h nx w→(Instr.lookup t (tr ι (.map (some k))) (tr ι (.agg cs)) ok).run P w =
   .ok (if ok then .tuple #[(match r with|some v=>bR ι v|none=>ei.zv),.bool r.isSome] else (match r with|some v=>bR ι v|none=>ei.zv)) w:=by
  intro w H;have hob:=H.obj k _ hk;cases hι:ι k with
  |nil p=>rw [hι] at hob;exact hob.elim
  |lay b o e =>
   rw [hι] at hob;obtain⟨hB,ents,clock,h1,h2,h3⟩:=hob;obtain⟨j,hj⟩:=DS hT hkt h3 h2 hfind w;have hck:=BK hT hkt hkf ents.isEmpty 9998 w;have e1:tr ι (.map (some k))=.map (some b):=(by simp [tr,dP,bR,dR,hι]);rw [e1,htr];simp only [Instr.lookup,Sem.run_bind,run_underlying hm,Result.andThen_ok,MapKept.run_getObj_map h1,Sem.run_pure,hck,hj];cases r with
   |none=>cases ok <;> simp [hei.zero]
   |some v=>cases ok <;> simp
 have hsc:∀ v,r=some v→gY ι nx v:=by
  intro v hv;subst hv;have hos:=H0.sc k _ hk;clear hrun hl H0 hk
  induction es with
  |nil=>simp [rS] at hfind
  |cons a es ih =>
   obtain⟨k',v'⟩:=a;simp only [rS] at hfind;split at hfind
   ·cases hfind
   ·injection hfind with hfind;injection hfind with hfind;subst hfind;exact hos (k',v') (by simp)
   ·exact ih hfind (fun e he=>hos e (by simp [he]))
 split at hl
 ·rename_i v;have hs:=hsc v rfl;refine⟨_,hl,?_,fun w H=>?_⟩
  ·intro u hu;simp at hu;rcases hu with rfl|rfl
   ·exact iR hs
   ·simp [kP,gY,oS]
  ·rw [hrun w H];have e2:dP ι (.bool true)=.bool true:=rfl;simp [tr,xW hs,e2]
 ·refine⟨_,hl,?_,fun w H=>?_⟩
  ·intro u hu;simp at hu;rcases hu with rfl|rfl
   ·exact hz
   ·simp [kP,gY,oS]
  ·rw [hrun w H];have:dP ι ei.zv=ei.zv:=VG hei.zg;simp [tr,this];simp [dP,bR,dR]
 ·rename_i v;have hs:=hsc v rfl;exact⟨_,hl,lR (iR hs),fun w H=>by rw [hrun w H,y0 hs];rfl⟩
 ·exact⟨_,hl,lR hz,fun w H=>by rw [hrun w H,uJ hz,VG hei.zg];rfl⟩
theorem HK (hT:cH P T){t:TypeId}{x key v:Value}{K:KE}(hl:jZ aB T h nx t x key v K)(hx:eR ι nx x)(hv:eR ι nx v){w:World}(H:aS ι B h nx w) :
  ∃ h' w',K undef h' nx∧aS ι B h' nx w'∧gO B w w'∧(Instr.mapUpdate t (tr ι x) (tr ι key) (tr ι v)).run P w=.ok () w':=by
 unfold jZ at hl;split at hl
 case h_2=>exact hl.elim
 rename_i kt et s1 b1 z1 k cs ht hag;split at hl
 case h_2=>exact hl.elim
 rename_i fs s2 b2 z2 es hkt hk;split at hl
 case h_2=>exact hl.elim
 rename_i hkf hg hfind;have hvS:gY ι nx v:=by
  cases v <;> first|exact hv|(simp at hag)
 have htr:tr ι (.agg cs)=.agg cs:=iB (by simpa [gT,gA] using hg);have hm:=(hT t _ ht).mp rfl;have hob:=H.obj k _ hk;cases hι:ι k with
 |nil p=>rw [hι] at hob;exact hob.elim
 |lay b o e =>
  rw [hι] at hob;obtain⟨hB,ents,clock,h1,h2,h3⟩:=hob;obtain⟨j,hj⟩:=DS hT hkt h3 h2 hfind w;have hck:=BK hT hkt hkf false 9998 w;have e1:tr ι (.map (some k))=.map (some b):=(by simp [tr,dP,bR,dR,hι]);refine⟨_,{ w with heap:=w.heap.setIfInBounds b (.map (ents.push ⟨.agg cs,bR ι v,clock⟩) (clock+1)) },hl,?_,?_,?_⟩
  ·refine H.set hk rfl ?_ ?_ rfl (fun c hc=>?_) (by simp)
   ·rw [hι];have hlt:=(Array.getElem?_eq_some_iff.1 h1).1;refine⟨hB,ents.push ⟨.agg cs,bR ι v,clock⟩,clock+1,by simp [Array.getElem?_setIfInBounds_self_of_lt hlt],by simp [h2],fun e he=>?_⟩;rcases List.mem_append.1 he with he|he
    ·exact h3 e he
    ·simp at he;subst he;simpa [gA] using hg
   ·intro e he;rcases List.mem_append.1 he with he|he
    ·exact H.sc k _ hk e he
    ·simp at he;subst he;exact hvS
   ·have:b≠c:=fun e=>hc (by rw [hι,e];rfl);simp [Array.getElem?_setIfInBounds_ne this]
  ·exact⟨rfl,rfl,rfl,by simp,fun c hc=>by
    have:b≠c:=(by omega);simp [Array.getElem?_setIfInBounds_ne this],Nat.le_refl _⟩
  ·rw [e1,htr,y0 hvS];simp only [Instr.mapUpdate,Sem.run_bind,run_underlying hm,Result.andThen_ok,MapKept.run_getObj_map h1,hck,hj,Option.map_none,MapKept.run_setObj_map _ h1]
theorem XS (hT:cH P T){t ty:TypeId}{x:Value}{K:KE}(hl:wV T h nx t x K)(hx:eR ι nx x){w:World}(H:aS ι B h nx w) :
  JI P ι B nx w (Builtin.clear_ #[t] ty #[tr ι x]) K:=by
 unfold wV at hl;split at hl
 case h_3=>exact hl.elim
 ·rename_i e s1 b1 z1 ht;have hd:=(hT t _ ht).sl rfl;refine⟨_,_,_,ι,w,hl,by simp [eR],H,gO.refl _ _,fun _ _=>rfl,Nat.le_refl _,?_⟩;rw [c7];simp [Builtin.clear_,run_underlying hd,tr]
 ·rename_i e s1 b1 z1 k o n c ht;have hd:=(hT t _ ht).sl rfl;have hx':k<nx∧((ι k).gJ=false→n=0∧c=0):=hx;split at hl
  ·refine⟨_,_,_,ι,w,hl,by simp [eR],H,gO.refl _ _,fun _ _=>rfl,Nat.le_refl _,?_⟩;simp only [tr,dP,bR,dR];cases ι k with
   |nil p=>cases p <;> simp [Builtin.clear_,run_underlying hd]
   |lay b o e=>simp [Builtin.clear_,run_underlying hd]
  ·rename_i hn0;split at hl
   case h_2=>exact hl.elim
   rename_i ei g sz cs he hk;obtain⟨hb,hK⟩:=aG.1 hl;have hb:=Nat.le_of_ble_eq_true hb;have hei:=hT e _ he;cases hι:ι k with
   |nil p=>exact absurd (hx'.2 (by rw [hι];rfl)).1 hn0
   |lay b off ex =>
    have hz:=p9 hT he;have hrep:∀ v∈rep n ei.zv.cells.toList,gS v=true:=by
     intro v hv;simp only [rep,List.mem_flatten,List.mem_replicate] at hv;obtain⟨l,⟨_,rfl⟩,hv⟩:=hv;exact hz v hv
    have hlen:(rep n ei.zv.cells.toList).length=n*ei.size:=by
     rw [← jR,Array.length_toList,size_zeroCells,hei.zs]
    obtain⟨w',h1,h2,h3⟩:=H.aIL (P:=P) hk hι (o:=o) (vs:=rep n ei.zv.cells.toList) (by omega) (fun v hv=>cR (hrep v hv));rw [nJ hrep] at h1;refine⟨_,_,_,ι,w',hK,by simp [eR],h3,h2,fun _ _=>rfl,Nat.le_refl _,?_⟩;have e1:tr ι (.slice (some ⟨k,o,none⟩) n c)=.slice (some ⟨b,off+o,none⟩) n (c+ex):=(by simp [tr,dP,bR,dR,hι]);rw [e1];cases n with
    |zero=>exact absurd rfl hn0
    |succ n=>simp [Builtin.clear_,run_underlying hd,hei.zero,jR,h1,tr]
end
end Go.Aw
end
