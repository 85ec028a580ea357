/-
  PlaneChecks returns true, for every list of points and every list of triangles. No condition.
-/
import Derived.Test.YtmkcjbpekejgdaaGreatQAq
import Derived.Test.YtmkcjbpekejgdaaGreatQAs
import Derived.Test.YtmkcjbpekejgdaaGreatQAz
import Derived.Test.YtmkcjbpekejgdaaGreatRows
import Derived.ProofKit
import Derived.Lib.SmallJoins
import Derived.Deep.Slices
import Derived.Deep.Fields
set_option linter.unusedSimpArgs false
set_option linter.unusedVariables false
noncomputable section
namespace Go.Aw
def clo_normal:Clo:=⟨22,some (4,2,[iv 4,iv 4,iv 4,iv 2,iv 4,iv 0,iv 0,iv 0]),[],.tuple #[.slice (some ⟨0,0,none⟩) 3 3,iv 0],[(0,.cells true false 2 [iv 0,iv 0,iv 4,iv 0,iv 4,iv 4])],1,[(0,83)]⟩
theorem clo_normal_ok:CloOK cfg0 40 clo_normal:=⟨by decide +kernel,by decide +kernel⟩
def clo_triangles:Clo:=⟨25,some (4,2,[iv 0,iv 0,iv 4,iv 0,iv 4,iv 4,iv 0,iv 4]),[],.tuple #[.slice (some ⟨0,0,none⟩) 2 2,iv 0],[(0,.cells true false 6 [iv 0,iv 4,iv 0,iv 0,iv 4,iv 0,iv 4,iv 0,iv 4,iv 4,iv 0,iv 4])],1,[(0,102)]⟩
theorem clo_triangles_ok:CloOK cfg0 40 clo_triangles:=⟨by decide +kernel,by decide +kernel⟩
def clo_hull:Clo:=⟨33,some (4,2,[iv 0,iv 0,iv 2,iv 0,iv 4,iv 0,iv 2,iv 1]),[],.tuple #[.slice (some ⟨0,0,none⟩) 3 3,iv 0],[(0,.cells true false 2 [iv 0,iv 0,iv 4,iv 0,iv 2,iv 1])],1,[(0,35)]⟩
theorem clo_hull_ok:CloOK cfg0 40 clo_hull:=⟨by decide +kernel,by decide +kernel⟩
def clo_split:Clo:=⟨39,some (2,4,[iv 0,iv 0,iv 4,iv 0,iv 2,iv 0,iv 2,iv 3]),[],.tuple #[.slice (some ⟨0,0,none⟩) 3 3,iv 0],[(0,.cells true false 4 [iv 0,iv 0,iv 2,iv 0,iv 2,iv 0,iv 2,iv 3,iv 2,iv 0,iv 4,iv 0])],1,[(0,116)]⟩
theorem clo_split_ok:CloOK cfg0 40 clo_split:=⟨by decide +kernel,by decide +kernel⟩
def clo_sweep:Clo:=⟨46,some (2,4,[iv 0,iv 0,iv 4,iv 0,iv 1,iv 2,iv 3,iv 1]),[],.tuple #[.slice (some ⟨0,0,none⟩) 3 3,iv 0],[(0,.cells false false 3 [iv 0,iv 1,.slice (some ⟨1,0,none⟩) 1 1,iv 1,iv 3,.slice (some ⟨2,0,none⟩) 2 2,iv 3,iv 4,.slice (some ⟨3,0,none⟩) 1 1]),(1,.cells false false 1 [iv 0]),(2,.cells false false 1 [iv 0,iv 1]),(3,.cells false false 1 [iv 0])],4,[(0,105),(1,31),(2,69),(3,90)]⟩
theorem clo_sweep_ok:CloOK cfg0 40 clo_sweep:=⟨by decide +kernel,by decide +kernel⟩
def clo_cross:Clo:=⟨53,none,[sg 0 0 3 1,sg 0 1 1 0],.tuple #[.agg #[iv 3,iv 4],.agg #[iv 1,iv 4],.bool true],[],0,[]⟩
theorem clo_cross_ok:CloOK cfg0 40 clo_cross:=⟨by decide +kernel,by decide +kernel⟩
def clo_where1:Clo:=⟨29,some (4,2,[iv 0,iv 0,iv 4,iv 0,iv 4,iv 4,iv 0,iv 4]),[pt 4 1],.int .u8 1,[],0,[]⟩
theorem clo_where1_ok:CloOK cfg0 40 clo_where1:=⟨by decide +kernel,by decide +kernel⟩
def clo_where2:Clo:=⟨29,some (4,2,[iv 0,iv 0,iv 4,iv 0,iv 4,iv 4,iv 0,iv 4]),[pt 2 2],.int .u8 2,[],0,[]⟩
theorem clo_where2_ok:CloOK cfg0 40 clo_where2:=⟨by decide +kernel,by decide +kernel⟩
def clos:List Clo:=[clo_normal,clo_triangles,clo_hull,clo_split,clo_sweep,clo_cross,clo_where1,clo_where2]
theorem clos_ok:∀ E∈clos,CloOK cfg0 40 E:=by
 intro E hE
 simp only [clos,List.mem_cons,List.not_mem_nil,or_false] at hE
 rcases hE with rfl|rfl|rfl|rfl|rfl|rfl|rfl|rfl
 ·exact clo_normal_ok
 ·exact clo_triangles_ok
 ·exact clo_hull_ok
 ·exact clo_split_ok
 ·exact clo_sweep_ok
 ·exact clo_cross_ok
 ·exact clo_where1_ok
 ·exact clo_where2_ok
def cfg1:Cfg:={ A:=fastA,T:=tyT,FT:=look ftL,PL:=plF,PR:=fun _=>false,X:=cloX clos,M:=1000 }
theorem cfg1_ok:CfgOK Go.Proofs.Tryz.prog cfg1:=cfg_ok _ (cloXOK cfg0_ok rfl clos_ok) _ _
theorem alive_B:wcall cfg1 (cloXB clos) 40 false 15 [] [] 0 (fun v _ _=>sameT v (.bool true))=true:=by decide +kernel
end Go.Aw
end

noncomputable section
namespace Go.Aw
theorem x19:XOK Go.Proofs.Tryz.prog X19.1 X19.2 :=
 gX_ok (vcall_ok cfg1_ok 40).1 fun args v hs=>by
  have:args=[]∧v=.bool true:=by
   unfold s0 at hs
   split at hs
   ·injection hs with hs;injection hs with _ h2;exact⟨rfl,h2.symm⟩
   ·cases hs
  obtain⟨rfl,rfl⟩:=this
  exact⟨rfl,rfl,wcall_tw (cloTwX rfl) 40 false 15 [] [] 0 _ (fun u _ _=>u=.bool true) (fun u h nx e=>sameT_eq e) alive_B⟩
end Go.Aw
namespace Go.Proofs.YtmkcjbpekejgdaaGreat
open Go.ChangeShapes Go.WideShapes Go.ChangeAt Go.RowKit Go.Aw Go.Joins
theorem Tryz.own:ownKnob Tryz.prog.godebug=none:=by kernel_rfl
theorem Tryz.laidOut:laidOutB Tryz.prog=true:=by kernel_rfl
theorem Tryz.cells32:Tryz.prog.cellsOf 32=2:=by kernel_rfl
theorem shutBool {H:Type}{enc:TypeId × Value→H}{W:World}{base:Nat}{sp:Nat→Bool}{held:Bool}(b:Bool):DataW.Trod enc Tryz.prog W base sp held 4 (.bool b) (.lit (.bool b)) []:=⟨1,by simp [DataW.trod,Value.cells,Tryz.underlying4]⟩
theorem Tryz.cells3:Tryz.prog.cellsOf 3=1:=by kernel_rfl
section
variable {H:Type}{enc:TypeId × Value→H}{w:World}{base:Nat}{spare:Nat→Bool}{held:Bool}
theorem len2 {α:Type}{l:List α}(h:l.length=2):∃ a b,l=[a,b]:=by
 match l,h with
 |[a,b],_=>exact⟨a,b,rfl⟩
theorem pt_cells {fuel:Nat}{cs:List Value}{x:DataW H × List MemPlace}(h:DataW.trod enc Tryz.prog w base spare held fuel 32 cs=some x):∃ a b:Int,cs=[.int .i64 a,.int .i64 b]:=by
 obtain⟨xs,n,_,_,hlen,hxl,hf⟩:=DataW.trod_struct Tryz.underlying32 h
 rw [Tryz.cells32] at hlen
 obtain⟨c0,c1,rfl⟩:=len2 hlen
 obtain⟨x0,x1,rfl⟩:=len2 hxl
 have h0:DataW.trod enc Tryz.prog w base spare held n 3 [c0]=some x0:=by simpa [Tryz.cells3] using hf 0 _ rfl
 have h1:DataW.trod enc Tryz.prog w base spare held n 3 [c1]=some x1:=by simpa [Tryz.cells3] using hf 1 _ rfl
 obtain⟨a,ea,_⟩:=DataW.trod_int Tryz.underlying3 h0
 obtain⟨b,eb,_⟩:=DataW.trod_int Tryz.underlying3 h1
 simp at ea eb
 exact⟨a,b,by rw [ea,eb]⟩
end
end Go.Proofs.YtmkcjbpekejgdaaGreat
end

noncomputable section
namespace Go.Aw
set_option maxRecDepth 100000
attribute [local irreducible] chkT in
theorem law8 (l:List (Int × Int))(ts:List Tg)(c1 c2:Nat):body [X19,D35,D36] 8 [.slice (some ⟨0,0,none⟩) l.length c1,.slice (some ⟨1,0,none⟩) ts.length c2] [(0,.cells false true 2 (flat elP.fl l)),(1,.cells false true 6 (flat elT.fl ts))] 2 (fun u _ _=>u=.bool true):=by
 repeat' first
  |(((conv=>whnf);refine bm (fun g=>?_) (fun g=>?_)))
  |((conv=>whnf)
    refine Exists.intro l (Exists.intro ts (And.intro ⟨rfl,_,_,_,_,rfl,by rw [List.drop_zero,List.take_length]⟩ (And.intro ⟨rfl,_,_,_,_,rfl,by rw [List.drop_zero,List.take_length]⟩ ?_))))
 all_goals (conv=>whnf)
 ·show Value.bool (cfgS.A.eqB (chkT l ts) (chkT l ts))=.bool true
  simp only [cA_eqB,beq_self_eq_true]
 ·rename_i a b _
  simp only [cA_eqB,cA_lt,cA_num,beq_iff_eq,decide_eq_false_iff_not] at a b
  have hg:(decide (l.length≤1000000000)&&decide (ts.length≤1000000000))=false:=g
  simp only [Bool.and_eq_false_iff,decide_eq_false_iff_not] at hg
  omega
 ·rename_i a b
  simp only [cA_eqB,cA_lt,cA_num,beq_iff_eq,decide_eq_false_iff_not] at a b
  have hg:(decide (l.length≤1000000000)&&decide (ts.length≤1000000000))=false:=g
  simp only [Bool.and_eq_false_iff,decide_eq_false_iff_not] at hg
  omega
end Go.Aw
end

noncomputable section
namespace Go.Proofs.YtmkcjbpekejgdaaGreat
open Go.ChangeShapes Go.WideShapes Go.ChangeAt Go.RowKit Go.Aw Go.Joins
theorem flat_idx {α:Type}(E:El α)(l:List α)(i j:Nat)(hi:i<l.length)(hj:j<E.sz):(flat E.fl l)[i*E.sz+j]? = (E.fl l[i])[j]? := by
 have h1:=flat_at E l i hi
 rw [← h1,List.getElem?_take_of_lt hj,List.getElem?_drop]
section
variable {H:Type}{enc:TypeId × Value→H}{W:World}{held:Bool}
set_option maxRecDepth 100000 in
theorem open_list {α:Type}(E:El α)(hsz:0<E.sz){t e:TypeId}(ht:Tryz.prog.underlying t=some (.slice e))(hC:Tryz.prog.cellsOf e=E.sz)
  (hcells:∀ {fuel:Nat} {cs:List Value} {x:DataW H × List MemPlace},DataW.trod enc Tryz.prog W 0 (fun _=>true) held fuel e cs=some x→∃ a,cs=E.fl a)
  {a0:Option Addr} {n0 c0:Nat} {d:DataW H} {p:List MemPlace} (h:DataW.Trod enc Tryz.prog W 0 (fun _=>true) held t (.slice a0 n0 c0) d p) :
  ∃ (l:List α) (c:Nat) (loc:Go.Aw.Loc),.slice a0 n0 c0=tr (fun _=>loc) (.slice (some ⟨0,0,none⟩) l.length c)∧(loc.isAt=false→l.length=0∧c=0)∧ORel (fun _=>loc) W.heap.size W (.cells false true E.sz (flat E.fl l)) loc:=by
 obtain⟨fuel,hf⟩:=h
 rcases Go.Deep.open_slice ht hf with ⟨hcs,_⟩|⟨a,len,cap,m,n,D,Pl,hcs,_,hl,_,hm,_,hi⟩
 ·simp [Value.cells] at hcs
  obtain⟨rfl,rfl,rfl⟩:=hcs
  exact⟨[],0,.nil none,rfl,fun _=>⟨rfl,rfl⟩,rfl,fun h=>h.elim (fun h=>absurd h E.pos) (fun h=>by cases h)⟩
 ·simp [Value.cells] at hcs
  obtain⟨rfl,rfl,rfl⟩:=hcs
  simp only [if_true] at hm
  rw [hC,hm] at hi
  by_cases h0:c0=0
  ·subst h0
   have:n0=0:=by omega
   subst this
   exact⟨[],0,.nil (some a),rfl,fun _=>⟨rfl,rfl⟩,rfl,fun h=>h.elim (fun h=>absurd h E.pos) (fun h=>by cases h)⟩
  ·have hp:∀ i,i<c0→∃ q:α,∀ j,j<E.sz→W.cell? ((a.add (i*E.sz)).add j)=(E.fl q)[j]? := by
    intro i him
    obtain⟨cs',hc,ht'⟩:=hi i him
    obtain⟨q,rfl⟩:=hcells ht'
    obtain⟨_,_,hat⟩:=World.cells?_some hc
    exact⟨q,hat⟩
   obtain⟨q0,hq0⟩:=hp 0 (by omega)
   have hall:∀ i,∃ q:α,i<c0→∀ j,j<E.sz→W.cell? ((a.add (i*E.sz)).add j)=(E.fl q)[j]? := fun i=>by
    by_cases him:i<c0
    ·obtain⟨q,hq⟩:=hp i him
     exact⟨q,fun _=>hq⟩
    ·exact⟨q0,fun h=>absurd h him⟩
   obtain⟨F,hF⟩:=Classical.axiomOfChoice hall
   have hsome:∃ u,W.cell? a=some u:=by
    have:=hq0 0 hsz
    simp only [Nat.zero_mul,Addr.add,if_true] at this
    have hlen:=E.len q0
    rw [this,List.getElem?_eq_getElem (by omega)]
    exact⟨_,rfl⟩
   obtain⟨u0,hu0⟩:=hsome
   obtain⟨b,off,spot⟩:=a
   have hspot:spot=none:=World.cell?_spot hu0
   subst hspot
   have hbW:b<W.heap.size:=by
    unfold World.cell? at hu0
    cases hb:W.heap[b]? with
    |none=>simp [hb] at hu0
    |some o=>exact (Array.getElem?_eq_some_iff.1 hb).1
   refine⟨(List.range n0).map F,c0,.lay b off 0,?_,(fun h=>by cases h),hbW,fun _=>flat_g E _,fun i v hv=>?_⟩
   ·simp [tr,trA,trS,trP]
   ·have hlt:=(List.getElem?_eq_some_iff.1 hv).1
    rw [flat_len] at hlt
    have hi1:i / E.sz<((List.range n0).map F).length:=Nat.div_lt_of_lt_mul (by rw [Nat.mul_comm];exact hlt)
    have hj1:i % E.sz<E.sz:=Nat.mod_lt _ hsz
    have hdm:i / E.sz*E.sz+i % E.sz=i:=Nat.div_add_mod' _ _
    have hfi:=flat_idx E ((List.range n0).map F) (i / E.sz) (i % E.sz) hi1 hj1
    rw [hdm,hv] at hfi
    simp only [List.length_map,List.length_range] at hi1
    rw [show ((List.range n0).map F)[i / E.sz]=F (i / E.sz) by simp] at hfi
    have:=hF (i / E.sz) (by omega) (i % E.sz) hj1
    rw [← hfi] at this
    rw [trS_g (allG_mem (E.gr _) (List.mem_of_getElem? hfi.symm)),← this]
    congr 1
    rw [Addr.add_lit,Addr.add_lit]
    simp only [Addr.mk.injEq,and_true,true_and]
    omega
end
end Go.Proofs.YtmkcjbpekejgdaaGreat
end

noncomputable section
namespace Go.Proofs.YtmkcjbpekejgdaaGreat
open Go.ChangeShapes Go.WideShapes Go.ChangeAt Go.RowKit Go.Aw Go.Joins
theorem law_calls_2 {α β:Type}(E1:El α)(E2:El β){f:Nat}{xl:List (Nat × XF)}(hx:XLOK xl){l1:List α}{l2:List β}{c1 c2:Nat}
  (hb:body xl f [.slice (some ⟨0,0,none⟩) l1.length c1,.slice (some ⟨1,0,none⟩) l2.length c2] [(0,.cells false true E1.sz (flat E1.fl l1)),(1,.cells false true E2.sz (flat E2.fl l2))] 2 (fun u _ _=>u=.bool true)) {W:World} {v1 v2:Value} {loc1 loc2:Go.Aw.Loc}
  (hv1:v1=tr (fun _=>loc1) (.slice (some ⟨0,0,none⟩) l1.length c1)) (hn1:loc1.isAt=false→l1.length=0∧c1=0) (ho1:ORel (fun _=>loc1) W.heap.size W (.cells false true E1.sz (flat E1.fl l1)) loc1)
  (hv2:v2=tr (fun _=>loc2) (.slice (some ⟨0,0,none⟩) l2.length c2)) (hn2:loc2.isAt=false→l2.length=0∧c2=0) (ho2:ORel (fun _=>loc2) W.heap.size W (.cells false true E2.sz (flat E2.fl l2)) loc2) :
  Calls Tryz.prog f #[v1,v2] W (fun e W'=>e=.returned (.bool true)∧Below W.heap.size W W'):=by
 have h1':ORel (fun k=>match k with|0=>loc1|_=>loc2) W.heap.size W (.cells false true E1.sz (flat E1.fl l1)) loc1:=ho1.names (n:=0) (fun v hv=>scS_g (allG_mem (flat_g E1 l1) hv)) (fun k hk=>absurd hk (Nat.not_lt_zero k))
 have h2':ORel (fun k=>match k with|0=>loc1|_=>loc2) W.heap.size W (.cells false true E2.sz (flat E2.fl l2)) loc2:=ho2.names (n:=0) (fun v hv=>scS_g (allG_mem (flat_g E2 l2) hv)) (fun k hk=>absurd hk (Nat.not_lt_zero k))
 have key:∀ {k:Nat} {o:AObj},Aw.look ([(0,.cells false true E1.sz (flat E1.fl l1)),(1,.cells false true E2.sz (flat E2.fl l2))]:Heap) k=some o→(k=0∧o=.cells false true E1.sz (flat E1.fl l1))∨(k=1∧o=.cells false true E2.sz (flat E2.fl l2)):=by
  intro k o hk
  rw [look_cons] at hk
  split at hk
  ·rename_i hb1
   injection hk with hk
   exact .inl ⟨(beq_true hb1).symm,hk.symm⟩
  ·rw [look_cons] at hk
   split at hk
   ·rename_i hb1
    injection hk with hk
    exact .inr ⟨(beq_true hb1).symm,hk.symm⟩
   ·exact noLook hk
 obtain⟨_,h⟩:=body_calls hx f _ _ 2 _ hb (fun k=>match k with|0=>loc1|_=>loc2) W.heap.size W ⟨fun k o hk=>by
  rcases key hk with ⟨rfl,rfl⟩|⟨rfl,rfl⟩
  ·exact h1'
  ·exact h2',fun k k' o o' hk hk' hne ha=>(by
  rcases key hk with ⟨rfl,rfl⟩|⟨rfl,rfl⟩
  ·cases ha
  ·cases ha),fun k o hk=>(by
  rcases key hk with ⟨rfl,rfl⟩|⟨rfl,rfl⟩
  ·decide
  ·decide),Nat.le_refl _,fun k o hk=>by
  rcases key hk with ⟨rfl,rfl⟩|⟨rfl,rfl⟩
  ·exact fun v hv=>scS_g (allG_mem (flat_g E1 l1) hv)
  ·exact fun v hv=>scS_g (allG_mem (flat_g E2 l2) hv)⟩ (fun u hu=>by
  simp only [List.mem_cons,List.not_mem_nil,or_false] at hu
  rcases hu with rfl|rfl
  ·exact⟨by decide,hn1⟩
  ·exact⟨by decide,hn2⟩)
 have he:([Value.slice (some ⟨0,0,none⟩) l1.length c1,.slice (some ⟨1,0,none⟩) l2.length c2].map (tr (fun k=>match k with|0=>loc1|_=>loc2))).toArray=#[v1,v2]:=by
  rw [hv1,hv2]
  rfl
 rw [he] at h
 refine callsIn_wide.1 (CallsIn.mono h fun e W' hr=>?_)
 cases e with
 |returned u =>
  obtain⟨v,h',nx',ι',rfl,_,_,hb2,_,_,rfl⟩:=hr
  exact⟨rfl,hb2.kit⟩
 |_=>exact hr.elim
end Go.Proofs.YtmkcjbpekejgdaaGreat
end

noncomputable section
namespace Go.Proofs.YtmkcjbpekejgdaaGreat
open Go.ChangeShapes Go.WideShapes Go.ChangeAt Go.RowKit Go.Aw Go.Joins
theorem pt_el {H:Type}{enc:TypeId × Value→H}{W:World}{held:Bool}{fuel:Nat}{cs:List Value}{x:DataW H × List MemPlace}(h:DataW.trod enc Tryz.prog W 0 (fun _=>true) held fuel 32 cs=some x):∃ a,cs=elP.fl a:=by
 obtain⟨a,b,e⟩:=pt_cells h
 exact⟨(a,b),e⟩
theorem len6 {α:Type}{l:List α}(h:l.length=6):∃ a b c d e f,l=[a,b,c,d,e,f]:=by
 match l,h with
 |[a,b,c,d,e,f],_=>exact⟨a,b,c,d,e,f,rfl⟩
theorem len3' {α:Type}{l:List α}(h:l.length=3):∃ a b c,l=[a,b,c]:=by
 match l,h with
 |[a,b,c],_=>exact⟨a,b,c,rfl⟩
theorem cells73':Tryz.prog.cellsOf 73=6:=by kernel_rfl
theorem tg_el {H:Type}{enc:TypeId × Value→H}{W:World}{held:Bool}{fuel:Nat}{cs:List Value}{x:DataW H × List MemPlace}(h:DataW.trod enc Tryz.prog W 0 (fun _=>true) held fuel 73 cs=some x):∃ a,cs=elT.fl a:=by
 obtain⟨xs,n,_,_,hlen,hxl,hf⟩:=DataW.trod_struct Tryz.underlying73 h
 rw [cells73'] at hlen
 obtain⟨c0,c1,c2,c3,c4,c5,rfl⟩:=len6 hlen
 obtain⟨x0,x1,x2,rfl⟩:=len3' hxl
 have h0:DataW.trod enc Tryz.prog W 0 (fun _=>true) held n 32 [c0,c1]=some x0:=by simpa [Tryz.cells32] using hf 0 _ rfl
 have h1:DataW.trod enc Tryz.prog W 0 (fun _=>true) held n 32 [c2,c3]=some x1:=by simpa [Tryz.cells32] using hf 1 _ rfl
 have h2:DataW.trod enc Tryz.prog W 0 (fun _=>true) held n 32 [c4,c5]=some x2:=by simpa [Tryz.cells32] using hf 2 _ rfl
 obtain⟨a,b,e1⟩:=pt_cells h0
 obtain⟨c,d,e2⟩:=pt_cells h1
 obtain⟨e,f,e3⟩:=pt_cells h2
 simp at e1 e2 e3
 exact⟨((a,b),(c,d),(e,f)),by rw [e1.1,e1.2,e2.1,e2.2,e3.1,e3.2];rfl⟩
set_option maxRecDepth 100000 in
theorem checks_lifted (os:Os)(started:os.Started)(H:Type)(enc:TypeId × Value→H) :
  ReturnsInHanded {} Tryz.checked os 8 .any (Rows.planeChecksSpec.pre6 enc Tryz.prog Tryz.f8 Rows.planeChecksRow.domain false) (Rows.planeChecksSpec.post enc Tryz.prog Tryz.f8 false true false false):=by
 refine returnsInHanded_of_change (C:=Tryz.checked) Tryz.own started (by kernel_rfl) Tryz.func8
  (ChangeSpec.witness6 (enc:=enc) (C:=Tryz.checked) false ⟨#[],#[.slice none 0 0,.slice none 0 0],[]⟩ 8 (by kernel_rfl) (by kernel_rfl) (by kernel_rfl) (by kernel_rfl)) ?_
 intro W base args ds gs before hval0 hW hcnd _
 have hval:∀ (j:Nat) t v,Tryz.f8.params[j]? = some t→args[j]? = some v→Value.okWide Tryz.prog W .any base t v:=hval0
 have hW':=hW
 obtain⟨p,q,hA0,hV,rfl,hfz,hnd⟩:=hW
 have hA:DataW.TrodAll enc Tryz.prog W 0 (fun _=>true) true Tryz.f8.params.toList args.toList ds p:=hA0
 rw [Tryz.params8] at hA hval
 obtain⟨v0,v1,d0,d1,p0,p1,rfl,rfl,rfl,h0,h1⟩:=trodAll_two hA
 obtain⟨rfl,rfl⟩:=trodVars_none hV
 obtain⟨a0,len,cap,rfl⟩:=okWide_slice Tryz.underlying22 (hval 0 22 v0 rfl rfl)
 obtain⟨a1,len1,cap1,rfl⟩:=okWide_slice Tryz.underlying34 (hval 1 34 v1 rfl rfl)
 obtain⟨l,c,loc,e1,e2,e3⟩:=open_list elP (by decide) Tryz.underlying22 Tryz.cells32 pt_el h0
 obtain⟨ts,c',loc',e1',e2',e3'⟩:=open_list elT (by decide) Tryz.underlying34 cells73' tg_el h1
 clear hA0 hval0
 simp only [List.append_nil] at hW'
 have hlt:∀ x∈p0++p1,x.block<W.heap.size:=fun x hx=>by simpa using hW'.lt x hx
 refine (law_calls_2 elP elT (f:=8) (.cons x19 (.cons d35 (.cons d36 .nil))) (law8 l ts c c') e1 e2 e3 e1' e2' e3').mono fun e W' ⟨he,hb⟩=>?_
 subst he
 refine⟨_,rfl,_,_,_,[],p0++p1,[],hW',trodAll_mk1 (shutBool true),?_,rfl,hb.frame _,fun h=>by cases h⟩
 exact trodAll_mk2 (Below.trod Tryz.laidOut (by kernel_rfl) (of_decide_eq_true (by kernel_rfl)) h0 hb (fun x hx=>hlt x (List.mem_append.2 (.inl hx)))) (Below.trod Tryz.laidOut (by kernel_rfl) (of_decide_eq_true (by kernel_rfl)) h1 hb (fun x hx=>hlt x (List.mem_append.2 (.inr hx))))
theorem checks_holds:Rows.PlaneChecksSaid :=
 OpenClaim.holds_of_wide 8 Tryz.f8 rfl rfl rfl rfl rfl rfl rfl ⟨rfl,rfl,rfl,rfl,rfl⟩ rfl rfl rfl rfl rfl (by kernel_rfl) Tryz.func8 (by kernel_rfl)
  (of_decide_eq_true (by kernel_rfl)) (by unfold Func.isWrapper;first|(rw [if_pos (by decide +kernel)];kernel_rfl)|(rw [if_neg (by decide +kernel)];exact⟨rfl,rfl⟩))
  (fun os started H enc _=>checks_lifted os started H enc)
#print axioms checks_holds
end Go.Proofs.YtmkcjbpekejgdaaGreat
end
