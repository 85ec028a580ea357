/-
  PlaneCovers: triangles that CheckTriangles accepts have the area of the polygon together, no point is inside two of them, and their points are those of the polygon No condition.
-/
import Derived.Test.YtoekkmbbbllogaaGreatQAt
import Derived.Test.YtoekkmbbbllogaaGreatQAv
import Derived.Test.YtoekkmbbbllogaaGreatQAw
import Derived.Test.YtoekkmbbbllogaaGreatQAz
import Derived.Test.YtoekkmbbbllogaaGreatQBf
import Derived.Test.YtoekkmbbbllogaaGreatRows
import Derived.ProofKit
import Derived.Lib.SmallJoins
import Derived.Deep.Slices
import Derived.Deep.Fields
set_option linter.unusedSimpArgs false
set_option linter.unusedVariables false
noncomputable section
namespace Go.Aw
def clo_normal:Clo:=⟨23,some (4,2,[iv 4,iv 4,iv 4,iv 2,iv 4,iv 0,iv 0,iv 0]),[],.tuple #[.slice (some ⟨0,0,none⟩) 3 3,iv 0],[(0,.cells true false 2 [iv 0,iv 0,iv 4,iv 0,iv 4,iv 4])],1,[(0,83)]⟩
theorem clo_normal_ok:CloOK cfg0 40 clo_normal:=⟨by decide +kernel,by decide +kernel⟩
def clo_triangles:Clo:=⟨9,some (4,2,[iv 0,iv 0,iv 4,iv 0,iv 4,iv 4,iv 0,iv 4]),[],.tuple #[.slice (some ⟨0,0,none⟩) 2 2,iv 0],[(0,.cells true false 6 [iv 0,iv 4,iv 0,iv 0,iv 4,iv 0,iv 4,iv 0,iv 4,iv 4,iv 0,iv 4])],1,[(0,102)]⟩
theorem clo_triangles_ok:CloOK cfg0 40 clo_triangles:=⟨by decide +kernel,by decide +kernel⟩
def clo_hull:Clo:=⟨25,some (4,2,[iv 0,iv 0,iv 2,iv 0,iv 4,iv 0,iv 2,iv 1]),[],.tuple #[.slice (some ⟨0,0,none⟩) 3 3,iv 0],[(0,.cells true false 2 [iv 0,iv 0,iv 4,iv 0,iv 2,iv 1])],1,[(0,35)]⟩
theorem clo_hull_ok:CloOK cfg0 40 clo_hull:=⟨by decide +kernel,by decide +kernel⟩
def clo_split:Clo:=⟨27,some (2,4,[iv 0,iv 0,iv 4,iv 0,iv 2,iv 0,iv 2,iv 3]),[],.tuple #[.slice (some ⟨0,0,none⟩) 3 3,iv 0],[(0,.cells true false 4 [iv 0,iv 0,iv 2,iv 0,iv 2,iv 0,iv 2,iv 3,iv 2,iv 0,iv 4,iv 0])],1,[(0,116)]⟩
theorem clo_split_ok:CloOK cfg0 40 clo_split:=⟨by decide +kernel,by decide +kernel⟩
def clo_sweep:Clo:=⟨17,some (2,4,[iv 0,iv 0,iv 4,iv 0,iv 1,iv 2,iv 3,iv 1]),[],.tuple #[.slice (some ⟨0,0,none⟩) 3 3,iv 0],[(0,.cells false false 3 [iv 0,iv 1,.slice (some ⟨1,0,none⟩) 1 1,iv 1,iv 3,.slice (some ⟨2,0,none⟩) 2 2,iv 3,iv 4,.slice (some ⟨3,0,none⟩) 1 1]),(1,.cells false false 1 [iv 0]),(2,.cells false false 1 [iv 0,iv 1]),(3,.cells false false 1 [iv 0])],4,[(0,105),(1,31),(2,69),(3,90)]⟩
theorem clo_sweep_ok:CloOK cfg0 40 clo_sweep:=⟨by decide +kernel,by decide +kernel⟩
def clo_cross:Clo:=⟨31,none,[sg 0 0 3 1,sg 0 1 1 0],.tuple #[.agg #[iv 3,iv 4],.agg #[iv 1,iv 4],.bool true],[],0,[]⟩
theorem clo_cross_ok:CloOK cfg0 40 clo_cross:=⟨by decide +kernel,by decide +kernel⟩
def clo_where1:Clo:=⟨15,some (4,2,[iv 0,iv 0,iv 4,iv 0,iv 4,iv 4,iv 0,iv 4]),[pt 4 1],.int .u8 1,[],0,[]⟩
theorem clo_where1_ok:CloOK cfg0 40 clo_where1:=⟨by decide +kernel,by decide +kernel⟩
def clo_where2:Clo:=⟨15,some (4,2,[iv 0,iv 0,iv 4,iv 0,iv 4,iv 4,iv 0,iv 4]),[pt 2 2],.int .u8 2,[],0,[]⟩
theorem clo_where2_ok:CloOK cfg0 40 clo_where2:=⟨by decide +kernel,by decide +kernel⟩
def clos:List Clo:=[clo_normal,clo_triangles,clo_hull,clo_split,clo_sweep,clo_cross,clo_where1,clo_where2]
theorem clos_ok:∀ E∈clos,CloOK cfg0 40 E:=by
 intro E hE
 simp only [clos,List.mem_cons,List.not_mem_nil,or_false] at hE
 rcases hE with rfl|rfl|rfl|rfl|rfl|rfl|rfl|rfl
 ·exact clo_normal_ok
 ·exact clo_triangles_ok
 ·exact clo_hull_ok
 ·exact clo_split_ok
 ·exact clo_sweep_ok
 ·exact clo_cross_ok
 ·exact clo_where1_ok
 ·exact clo_where2_ok
def cfg1:Cfg:={ A:=fastA,T:=tyT,FT:=look ftL,PL:=plF,PR:=fun _=>false,X:=cloX clos,M:=1000 }
theorem cfg1_ok:CfgOK Go.Proofs.Tryz.prog cfg1:=cfg_ok _ (cloXOK cfg0_ok rfl clos_ok) _ _
theorem alive_B:wcall cfg1 (cloXB clos) 40 false 8 [] [] 0 (fun v _ _=>sameT v (.bool true))=true:=by decide +kernel
end Go.Aw
end

noncomputable section
namespace Go.Aw
theorem x19:XOK Go.Proofs.Tryz.prog X19.1 X19.2 :=
 gX_ok (vcall_ok cfg1_ok 40).1 fun args v hs=>by
  have:args=[]∧v=.bool true:=by
   unfold s0 at hs
   split at hs
   ·injection hs with hs;injection hs with _ h2;exact⟨rfl,h2.symm⟩
   ·cases hs
  obtain⟨rfl,rfl⟩:=this
  exact⟨rfl,rfl,wcall_tw (cloTwX rfl) 40 false 8 [] [] 0 _ (fun u _ _=>u=.bool true) (fun u h nx e=>sameT_eq e) alive_B⟩
end Go.Aw
namespace Go.Proofs.YtoekkmbbbllogaaGreat
open Go.ChangeShapes Go.WideShapes Go.ChangeAt Go.RowKit Go.Aw Go.Joins
theorem Tryz.own:ownKnob Tryz.prog.godebug=none:=by kernel_rfl
theorem Tryz.laidOut:laidOutB Tryz.prog=true:=by kernel_rfl
theorem Tryz.cells24:Tryz.prog.cellsOf 24=2:=by kernel_rfl
theorem shutBool {H:Type}{enc:TypeId × Value→H}{W:World}{base:Nat}{sp:Nat→Bool}{held:Bool}(b:Bool):DataW.Trod enc Tryz.prog W base sp held 4 (.bool b) (.lit (.bool b)) []:=⟨1,by simp [DataW.trod,Value.cells,Tryz.underlying4]⟩
theorem Tryz.cells3:Tryz.prog.cellsOf 3=1:=by kernel_rfl
section
variable {H:Type}{enc:TypeId × Value→H}{w:World}{base:Nat}{spare:Nat→Bool}{held:Bool}
theorem len2 {α:Type}{l:List α}(h:l.length=2):∃ a b,l=[a,b]:=by
 match l,h with
 |[a,b],_=>exact⟨a,b,rfl⟩
theorem pt_cells {fuel:Nat}{cs:List Value}{x:DataW H × List MemPlace}(h:DataW.trod enc Tryz.prog w base spare held fuel 24 cs=some x):∃ a b:Int,cs=[.int .i64 a,.int .i64 b]:=by
 obtain⟨xs,n,_,_,hlen,hxl,hf⟩:=DataW.trod_struct Tryz.underlying24 h
 rw [Tryz.cells24] at hlen
 obtain⟨c0,c1,rfl⟩:=len2 hlen
 obtain⟨x0,x1,rfl⟩:=len2 hxl
 have h0:DataW.trod enc Tryz.prog w base spare held n 3 [c0]=some x0:=by simpa [Tryz.cells3] using hf 0 _ rfl
 have h1:DataW.trod enc Tryz.prog w base spare held n 3 [c1]=some x1:=by simpa [Tryz.cells3] using hf 1 _ rfl
 obtain⟨a,ea,_⟩:=DataW.trod_int Tryz.underlying3 h0
 obtain⟨b,eb,_⟩:=DataW.trod_int Tryz.underlying3 h1
 simp at ea eb
 exact⟨a,b,by rw [ea,eb]⟩
set_option maxRecDepth 100000 in
theorem open_pt {b0:Nat}{v:Value}{d:DataW H}{p:List MemPlace}(hv:Value.okWide Tryz.prog w .any b0 24 v)(h:DataW.Trod enc Tryz.prog w base spare held 24 v d p):∃ q:Int × Int,v=ptv q:=by
 obtain⟨cs,rfl,hsz⟩:=okWide_struct Tryz.underlying24 hv
 obtain⟨fuel,hf⟩:=h
 obtain⟨a,b,e⟩:=pt_cells hf
 exact⟨(a,b),by show _=Value.agg _;congr 1;exact Array.ext' e⟩
end
end Go.Proofs.YtoekkmbbbllogaaGreat
end

noncomputable section
namespace Go.Aw
set_option maxRecDepth 100000
theorem tS_right {a b p:Int × Int}(ha:rightS a=true)(hb:rightS b=true)(hp:rightS p=true):tS a b p=turnS a b p:=by
 unfold tS
 rw [ha,hb,hp]
 rfl
theorem cIn_has {ts:List Tg}{p:Int × Int}(hp:rightS p=true):∀ {n:Nat},(∀ i,i<n→okTg (atT ts i)=true)→(0<cIn ts p n↔∃ i,i<n∧hasT (atT ts i) p)
 |0,_=>⟨fun h=>by simp [cIn] at h,fun ⟨i,h,_⟩=>absurd h (Nat.not_lt_zero i)⟩
 |n+1,h=>by
  have ih:=cIn_has (n:=n) hp fun i hi=>h i (by omega)
  have hb:=cIn_B ts p n
  obtain⟨h1,h2,h3,_⟩:=okTg_right (h n (by omega))
  rw [cIn,tS_right h1 h2 hp,tS_right h2 h3 hp,tS_right h3 h1 hp]
  by_cases g:hasT (atT ts n) p
  ·have g':=g
   unfold hasT at g'
   rw [if_pos g']
   exact⟨fun _=>⟨n,by omega,g⟩,fun _=>by omega⟩
  ·have g':=g
   unfold hasT at g'
   rw [if_neg g',Int.add_zero,ih]
   constructor
   ·rintro ⟨i,hi,hh⟩
    exact⟨i,by omega,hh⟩
   ·rintro ⟨i,hi,hh⟩
    by_cases e:i=n
    ·rw [e] at hh;exact absurd hh g
    ·exact⟨i,by omega,hh⟩
theorem cov_counts {l:List (Int × Int)}{ts:List Tg}(hc:Cov l ts){p:Int × Int}(hp:rightS p=true):cIs ts p ts.length≤1∧(0<cIn ts p ts.length↔WhV l p≠0):=by
 refine⟨cov_in hc (p:=p) (F:=cIs ts p) rfl fun i hi=>?_,(cIn_has hp hc.ok).trans (cov_has hc hp)⟩
 obtain⟨h1,h2,h3,_⟩:=okTg_right (hc.ok i hi)
 rw [cIs,tS_right h1 h2 hp,tS_right h2 h3 hp,tS_right h3 h1 hp]
 by_cases g:inT3 (atT ts i) p
 ·have g':=g
  unfold inT3 at g'
  rw [if_pos g']
  exact .inl ⟨rfl,g⟩
 ·have g':=g
  unfold inT3 at g'
  rw [if_neg g']
  exact .inr (Int.add_zero _)
theorem area3 {t:Tg}(h:okTg t=true):Area2V [t.1,t.2.1,t.2.2]=crossI t.1 t.2.1 t.2.2∧0<crossI t.1 t.2.1 t.2.2∧crossI t.1 t.2.1 t.2.2≤600000000:=by
 obtain⟨h1,h2,h3,_⟩:=okTg_right h
 have hr:[t.1,t.2.1,t.2.2].all rightS=true:=by simp [h1,h2,h3]
 have e:areaI [t.1,t.2.1,t.2.2] [t.1,t.2.1,t.2.2].length=crossI t.1 t.2.1 t.2.2:=by
  rw [area_ar (by simp),ar_three]
  unfold crossI
  grind
 have hb:=(areaI_B hr [t.1,t.2.1,t.2.2].length (Nat.le_refl _)).2
 rw [e] at hb
 refine⟨?_,okTg_pos h,by simpa using hb⟩
 unfold Area2V
 rw [if_pos ⟨by simp,hr⟩,e]
theorem aT_B {ts:List Tg}:∀ {n:Nat},(∀ i,i<n→okTg (atT ts i)=true)→0≤aT ts n∧aT ts n≤600000000*n
 |0,_=>⟨Int.le_refl _,Int.le_refl _⟩
 |n+1,h=>by
  have:=aT_B (n:=n) fun i hi=>h i (by omega)
  have:=area3 (h n (by omega))
  rw [aT]
  omega
def e4 (n m c1 c2:Nat)(s j:Int):List (Nat × Value):=[(0,.slice (some ⟨0,0,none⟩) n c1),(1,.slice (some ⟨1,0,none⟩) m c2),(5,.pointer (some ⟨2,0,none⟩)),(7,iv s),(28,.slice (some ⟨1,0,none⟩) m c2),(29,iv m),(30,iv j)]
def h4 (l:List (Int × Int))(ts:List Tg)(p:Int × Int):Heap:=[(0,.cells false true 2 (flat elP.fl l)),(1,.cells false true 6 (flat elT.fl ts)),(2,.cells true false 1 [iv p.1,iv p.2])]
attribute [local irreducible] chkT Area2V WhV cIn cIs aT in
theorem law4 (l:List (Int × Int))(ts:List Tg)(px py:Int)(c1 c2:Nat):body [X19,D35,X34,X17,D14,X40] 4 [.slice (some ⟨0,0,none⟩) l.length c1,.slice (some ⟨1,0,none⟩) ts.length c2,ptv (px,py)] [(0,.cells false true 2 (flat elP.fl l)),(1,.cells false true 6 (flat elT.fl ts))] 2 (fun u _ _=>u=.bool true):=by
 by_cases hlen:l.length≤40∧ts.length≤500
 ·obtain⟨hl,ht⟩:=hlen
  have hd1:(decide (l.length≤1000000000)&&decide (ts.length≤1000000000))=true:=by simp;omega
  cases hk:chkT l ts with
  |false =>
   repeat' first
    |(exfalso
      simp only [hd1] at g
      cases g
      done)
    |(exfalso
      simp only [cA_lt,cA_num,cA_eqB,beq_iff_eq,beq_eq_false_iff_ne,ne_eq,decide_eq_true_eq,decide_eq_false_iff_not] at g
      omega)
    |(exfalso;simp [hk,cA_notB,cA_eqB] at g;done)
    |(((conv=>whnf);refine bm (fun g=>?_) (fun g=>?_)))
    |((conv=>whnf)
      refine Exists.intro l (Exists.intro ts (And.intro ⟨rfl,_,_,_,_,rfl,by rw [List.drop_zero,List.take_length]⟩ (And.intro ⟨rfl,_,_,_,_,rfl,by rw [List.drop_zero,List.take_length]⟩ ?_))))
   all_goals (conv=>whnf)
   all_goals trace_state
  |true =>
   have hc:=chkT_cov hk
   repeat' first
    |(exfalso
      simp only [hd1] at g
      cases g
      done)
    |(exfalso
      simp only [cA_lt,cA_num,cA_eqB,beq_iff_eq,beq_eq_false_iff_ne,ne_eq,decide_eq_true_eq,decide_eq_false_iff_not] at g
      omega)
    |(exfalso;simp [hk,cA_notB,cA_eqB] at g;done)
    |(((conv=>whnf);refine bm (fun g=>?_) (fun g=>?_)))
    |((conv=>whnf)
      refine Exists.intro l (Exists.intro ts (And.intro ⟨rfl,_,_,_,_,rfl,by rw [List.drop_zero,List.take_length]⟩ (And.intro ⟨rfl,_,_,_,_,rfl,by rw [List.drop_zero,List.take_length]⟩ ?_))))
   all_goals (conv=>whnf)
   refine⟨fun m e h nx=>∃ (i:Nat) (j s:Int),j=i∧i≤ts.length∧m=ts.length - i∧s=aT ts i∧e=e4 l.length ts.length c1 c2 s j∧h=h4 l ts (px,py)∧nx=3,⟨ts.length,?_⟩,?_⟩
   ·refine Into_id (e0:=e4 l.length ts.length c1 c2 0 0) (h0:=h4 l ts (px,py)) (n0:=3) ⟨0,0,0,rfl,Nat.zero_le _,rfl,by unfold aT;rfl,rfl,rfl,rfl⟩ ?_ ?_ (by decide)
    ·unfold e4
     ((repeat' refine iE rfl rfl ?_);exact iN)
    ·unfold h4
     ((repeat'(first|refine iF rfl rfl ?_|refine iJ rfl rfl rfl rfl ?_));exact iN)
   ·rintro m e h nx ⟨i,j,s,hj,hi,rfl,hs,rfl,rfl,rfl⟩
    unfold e4 h4
    ((conv=>whnf);refine bm (fun g1=>?_) (fun g1=>?_))
    ·have hlt:i<ts.length:=by simp only [cA_lt,cA_num,decide_eq_true_eq] at g1;omega
     have hb:=aT_B (n:=i) (ts:=ts) fun k hk=>hc.ok k (by omega)
     rw [← hs] at hb
     obtain⟨a1,a2,a3⟩:=area3 (hc.ok i hlt)
     have hn:aT ts (i+1)=s+Area2V [(atT ts i).1,(atT ts i).2.1,(atT ts i).2.2]:=by rw [aT,← hs,a1]
     rw [← a1] at a2 a3
     generalize hA:(atT ts i).1=PA at *
     generalize hB:(atT ts i).2.1=PB at *
     generalize hC:(atT ts i).2.2=PC at *
     repeat' first
      |(exfalso
        simp only [cA_add,cA_sub,cA_rem,cA_fits,cA_lt,cA_le,cA_eq,cA_notB,cA_andB,cA_num,fitsK,Bool.not_eq_false',Bool.not_eq_true',Bool.and_eq_false_iff,Bool.and_eq_true,decide_eq_true_eq,decide_eq_false_iff_not] at g
        omega)
      |(exfalso
        have hg:decide ([PA,PB,PC].length≤1000000000)=false:=g
        simp at hg
        done)
      |(((conv=>whnf);refine bm (fun g=>?_) (fun g=>?_)))
      |((conv=>whnf)
        refine boL (getT ts hlt ?_) ?_
        ·simp [cfgS,std];omega
        rw [hA,hB,hC])
      |((conv=>whnf)
        show ∃ x:List (Int × Int),_
        refine Exists.intro [PA,PB,PC] (And.intro ⟨rfl,_,_,_,_,rfl,rfl⟩ ?_))
     all_goals (conv=>whnf)
     refine⟨ts.length - (i+1),by omega,?_⟩
     refine Into_id (e0:=e4 l.length ts.length c1 c2 (s+Area2V [PA,PB,PC]) (j+1)) (h0:=h4 l ts (px,py)) (n0:=3) ⟨i+1,j+1,_,by omega,by omega,rfl,hn.symm,rfl,rfl,rfl⟩ ?_ ?_ (by decide)
     ·unfold e4
      ((repeat' refine iE rfl rfl ?_);exact iN)
     ·unfold h4
      ((repeat'(first|refine iF rfl rfl ?_|refine iJ rfl rfl rfl rfl ?_));exact iN)
    ·have hge:i=ts.length:=by simp only [cA_lt,cA_num,decide_eq_false_iff_not] at g1;omega
     subst hge
     have hA2:Area2V l=areaI l l.length:=by unfold Area2V;rw [if_pos ⟨by omega,hc.good.2.2.1⟩]
     have har:=cov_area hc
     rw [← hs,← hA2] at har
     have hab:=aT_B (n:=ts.length) (ts:=ts) hc.ok
     rw [← hs] at hab
     have hcn:=fun hp=>cov_counts hc (p:=(px,py)) hp
     have hbI:=cIn_B ts (px,py) ts.length
     have hbS:=cIs_B ts (px,py) ts.length
     have hd2:decide (l.length≤1000000000)=true:=decide_eq_true (by omega)
     have hd3:decide (ts.length≤1000000)=true:=decide_eq_true (by omega)
     have hmx:s=mx (Area2V l) (0 - Area2V l):=by unfold mx;split at har <;> split <;> omega
     have hRb : -300000000000≤Area2V l∧Area2V l≤300000000000:=by split at har <;> omega
     cases hp:rightS (px,py)
     all_goals repeat' first
      |(exfalso
        simp only [hd2,hd3] at g
        cases g
        done)
      |(exfalso;simp [hp,cA_notB,cA_eq] at g;done)
      |(((conv=>whnf);refine bm (fun g=>?_) (fun g=>?_)))
      |((conv=>whnf)
        show ∃ x:List (Int × Int),_
        refine Exists.intro l (And.intro ⟨rfl,_,_,_,_,rfl,by rw [List.drop_zero,List.take_length]⟩ ?_))
      |((conv=>whnf)
        show ∃ x:List Tg,_
        refine Exists.intro ts (And.intro ⟨rfl,_,_,_,_,rfl,by rw [List.drop_zero,List.take_length]⟩ ?_))
     all_goals (conv=>whnf)
     all_goals first
      |(exfalso
        simp only [cA_fits,cA_neg,fitsK,Bool.and_eq_false_iff,decide_eq_false_iff_not] at g
        omega)
      |(exfalso
        simp only [cA_notB,cA_eq,cA_max,cA_neg,Bool.not_eq_true',decide_eq_false_iff_not] at g
        exact g hmx)
      |(exfalso;simp [hp,cA_notB,cA_eq] at g;done)
      |(exfalso
        rename_i g1 _ _
        simp [hp,cA_notB,cA_eq] at g1
        done)
      |(exfalso
        obtain⟨h1,h2⟩:=hcn hp
        simp only [cA_eqB,cA_le,pEta,beq_eq_false_iff_ne,ne_eq,decide_eq_true_eq] at g
        exact g h1)
      |(obtain⟨h1,h2⟩:=hcn hp
        show Value.bool (cfgS.A.eqB (cfgS.A.lt 0 (cIn ts (px,py) ts.length)) (cfgS.A.notB (cfgS.A.eq (WhV l (px,py)) 0)))=.bool true
        simp only [cA_eqB,cA_lt,cA_notB,cA_eq]
        by_cases hw:WhV l (px,py)=0
        ·have:¬ 0<cIn ts (px,py) ts.length:=fun g=>h2.1 g hw
         simp [hw,this]
        ·have:0<cIn ts (px,py) ts.length:=h2.2 hw
         simp [hw,this])
      |trace_state
 ·repeat' first
   |(exfalso
     simp only [cA_lt,cA_num,cA_eqB,beq_iff_eq,beq_eq_false_iff_ne,ne_eq,decide_eq_true_eq,decide_eq_false_iff_not] at *
     omega)
   |(((conv=>whnf);refine bm (fun g=>?_) (fun g=>?_)))
  all_goals (conv=>whnf)
  all_goals trace_state
end Go.Aw
end

noncomputable section
namespace Go.Proofs.YtoekkmbbbllogaaGreat
open Go.ChangeShapes Go.WideShapes Go.ChangeAt Go.RowKit Go.Aw Go.Joins
theorem flat_idx {α:Type}(E:El α)(l:List α)(i j:Nat)(hi:i<l.length)(hj:j<E.sz):(flat E.fl l)[i*E.sz+j]? = (E.fl l[i])[j]? := by
 have h1:=flat_at E l i hi
 rw [← h1,List.getElem?_take_of_lt hj,List.getElem?_drop]
section
variable {H:Type}{enc:TypeId × Value→H}{W:World}{held:Bool}
set_option maxRecDepth 100000 in
theorem open_list {α:Type}(E:El α)(hsz:0<E.sz){t e:TypeId}(ht:Tryz.prog.underlying t=some (.slice e))(hC:Tryz.prog.cellsOf e=E.sz)
  (hcells:∀ {fuel:Nat} {cs:List Value} {x:DataW H × List MemPlace},DataW.trod enc Tryz.prog W 0 (fun _=>true) held fuel e cs=some x→∃ a,cs=E.fl a)
  {a0:Option Addr} {n0 c0:Nat} {d:DataW H} {p:List MemPlace} (h:DataW.Trod enc Tryz.prog W 0 (fun _=>true) held t (.slice a0 n0 c0) d p) :
  ∃ (l:List α) (c:Nat) (loc:Go.Aw.Loc),.slice a0 n0 c0=tr (fun _=>loc) (.slice (some ⟨0,0,none⟩) l.length c)∧(loc.isAt=false→l.length=0∧c=0)∧ORel (fun _=>loc) W.heap.size W (.cells false true E.sz (flat E.fl l)) loc:=by
 obtain⟨fuel,hf⟩:=h
 rcases Go.Deep.open_slice ht hf with ⟨hcs,_⟩|⟨a,len,cap,m,n,D,Pl,hcs,_,hl,_,hm,_,hi⟩
 ·simp [Value.cells] at hcs
  obtain⟨rfl,rfl,rfl⟩:=hcs
  exact⟨[],0,.nil none,rfl,fun _=>⟨rfl,rfl⟩,rfl,fun h=>h.elim (fun h=>absurd h E.pos) (fun h=>by cases h)⟩
 ·simp [Value.cells] at hcs
  obtain⟨rfl,rfl,rfl⟩:=hcs
  simp only [if_true] at hm
  rw [hC,hm] at hi
  by_cases h0:c0=0
  ·subst h0
   have:n0=0:=by omega
   subst this
   exact⟨[],0,.nil (some a),rfl,fun _=>⟨rfl,rfl⟩,rfl,fun h=>h.elim (fun h=>absurd h E.pos) (fun h=>by cases h)⟩
  ·have hp:∀ i,i<c0→∃ q:α,∀ j,j<E.sz→W.cell? ((a.add (i*E.sz)).add j)=(E.fl q)[j]? := by
    intro i him
    obtain⟨cs',hc,ht'⟩:=hi i him
    obtain⟨q,rfl⟩:=hcells ht'
    obtain⟨_,_,hat⟩:=World.cells?_some hc
    exact⟨q,hat⟩
   obtain⟨q0,hq0⟩:=hp 0 (by omega)
   have hall:∀ i,∃ q:α,i<c0→∀ j,j<E.sz→W.cell? ((a.add (i*E.sz)).add j)=(E.fl q)[j]? := fun i=>by
    by_cases him:i<c0
    ·obtain⟨q,hq⟩:=hp i him
     exact⟨q,fun _=>hq⟩
    ·exact⟨q0,fun h=>absurd h him⟩
   obtain⟨F,hF⟩:=Classical.axiomOfChoice hall
   have hsome:∃ u,W.cell? a=some u:=by
    have:=hq0 0 hsz
    simp only [Nat.zero_mul,Addr.add,if_true] at this
    have hlen:=E.len q0
    rw [this,List.getElem?_eq_getElem (by omega)]
    exact⟨_,rfl⟩
   obtain⟨u0,hu0⟩:=hsome
   obtain⟨b,off,spot⟩:=a
   have hspot:spot=none:=World.cell?_spot hu0
   subst hspot
   have hbW:b<W.heap.size:=by
    unfold World.cell? at hu0
    cases hb:W.heap[b]? with
    |none=>simp [hb] at hu0
    |some o=>exact (Array.getElem?_eq_some_iff.1 hb).1
   refine⟨(List.range n0).map F,c0,.lay b off 0,?_,(fun h=>by cases h),hbW,fun _=>flat_g E _,fun i v hv=>?_⟩
   ·simp [tr,trA,trS,trP]
   ·have hlt:=(List.getElem?_eq_some_iff.1 hv).1
    rw [flat_len] at hlt
    have hi1:i / E.sz<((List.range n0).map F).length:=Nat.div_lt_of_lt_mul (by rw [Nat.mul_comm];exact hlt)
    have hj1:i % E.sz<E.sz:=Nat.mod_lt _ hsz
    have hdm:i / E.sz*E.sz+i % E.sz=i:=Nat.div_add_mod' _ _
    have hfi:=flat_idx E ((List.range n0).map F) (i / E.sz) (i % E.sz) hi1 hj1
    rw [hdm,hv] at hfi
    simp only [List.length_map,List.length_range] at hi1
    rw [show ((List.range n0).map F)[i / E.sz]=F (i / E.sz) by simp] at hfi
    have:=hF (i / E.sz) (by omega) (i % E.sz) hj1
    rw [← hfi] at this
    rw [trS_g (allG_mem (E.gr _) (List.mem_of_getElem? hfi.symm)),← this]
    congr 1
    rw [Addr.add_lit,Addr.add_lit]
    simp only [Addr.mk.injEq,and_true,true_and]
    omega
end
end Go.Proofs.YtoekkmbbbllogaaGreat
end

noncomputable section
namespace Go.Proofs.YtoekkmbbbllogaaGreat
open Go.ChangeShapes Go.WideShapes Go.ChangeAt Go.RowKit Go.Aw Go.Joins
theorem law_calls_2r {α β:Type}(E1:El α)(E2:El β){f:Nat}{xl:List (Nat × XF)}(hx:XLOK xl){l1:List α}{l2:List β}{c1 c2:Nat}{r:List Value}(hr:allGA r=true)
  (hb:body xl f (.slice (some ⟨0,0,none⟩) l1.length c1::.slice (some ⟨1,0,none⟩) l2.length c2::r) [(0,.cells false true E1.sz (flat E1.fl l1)),(1,.cells false true E2.sz (flat E2.fl l2))] 2 (fun u _ _=>u=.bool true)) {W:World} {v1 v2:Value} {loc1 loc2:Go.Aw.Loc}
  (hv1:v1=tr (fun _=>loc1) (.slice (some ⟨0,0,none⟩) l1.length c1)) (hn1:loc1.isAt=false→l1.length=0∧c1=0) (ho1:ORel (fun _=>loc1) W.heap.size W (.cells false true E1.sz (flat E1.fl l1)) loc1)
  (hv2:v2=tr (fun _=>loc2) (.slice (some ⟨0,0,none⟩) l2.length c2)) (hn2:loc2.isAt=false→l2.length=0∧c2=0) (ho2:ORel (fun _=>loc2) W.heap.size W (.cells false true E2.sz (flat E2.fl l2)) loc2) :
  Calls Tryz.prog f (v1::v2::r).toArray W (fun e W'=>e=.returned (.bool true)∧Below W.heap.size W W'):=by
 have h1':ORel (fun k=>match k with|0=>loc1|_=>loc2) W.heap.size W (.cells false true E1.sz (flat E1.fl l1)) loc1:=ho1.names (n:=0) (fun v hv=>scS_g (allG_mem (flat_g E1 l1) hv)) (fun k hk=>absurd hk (Nat.not_lt_zero k))
 have h2':ORel (fun k=>match k with|0=>loc1|_=>loc2) W.heap.size W (.cells false true E2.sz (flat E2.fl l2)) loc2:=ho2.names (n:=0) (fun v hv=>scS_g (allG_mem (flat_g E2 l2) hv)) (fun k hk=>absurd hk (Nat.not_lt_zero k))
 have key:∀ {k:Nat} {o:AObj},Aw.look ([(0,.cells false true E1.sz (flat E1.fl l1)),(1,.cells false true E2.sz (flat E2.fl l2))]:Heap) k=some o→(k=0∧o=.cells false true E1.sz (flat E1.fl l1))∨(k=1∧o=.cells false true E2.sz (flat E2.fl l2)):=by
  intro k o hk
  rw [look_cons] at hk
  split at hk
  ·rename_i hb1
   injection hk with hk
   exact .inl ⟨(beq_true hb1).symm,hk.symm⟩
  ·rw [look_cons] at hk
   split at hk
   ·rename_i hb1
    injection hk with hk
    exact .inr ⟨(beq_true hb1).symm,hk.symm⟩
   ·exact noLook hk
 obtain⟨_,h⟩:=body_calls hx f _ _ 2 _ hb (fun k=>match k with|0=>loc1|_=>loc2) W.heap.size W ⟨fun k o hk=>by
  rcases key hk with ⟨rfl,rfl⟩|⟨rfl,rfl⟩
  ·exact h1'
  ·exact h2',fun k k' o o' hk hk' hne ha=>(by
  rcases key hk with ⟨rfl,rfl⟩|⟨rfl,rfl⟩
  ·cases ha
  ·cases ha),fun k o hk=>(by
  rcases key hk with ⟨rfl,rfl⟩|⟨rfl,rfl⟩
  ·decide
  ·decide),Nat.le_refl _,fun k o hk=>by
  rcases key hk with ⟨rfl,rfl⟩|⟨rfl,rfl⟩
  ·exact fun v hv=>scS_g (allG_mem (flat_g E1 l1) hv)
  ·exact fun v hv=>scS_g (allG_mem (flat_g E2 l2) hv)⟩ (fun u hu=>by
  rcases List.mem_cons.1 hu with rfl|hu
  ·exact⟨by decide,hn1⟩
  ·rcases List.mem_cons.1 hu with rfl|hu
   ·exact⟨by decide,hn2⟩
   ·exact scT_g (allGA_mem hr hu))
 have he:((Value.slice (some ⟨0,0,none⟩) l1.length c1::.slice (some ⟨1,0,none⟩) l2.length c2::r).map (tr (fun k=>match k with|0=>loc1|_=>loc2))).toArray=(v1::v2::r).toArray:=by
  have hrm:r.map (tr (fun k=>match k with|0=>loc1|_=>loc2))=r:=by
   conv=>rhs;rw [← List.map_id r]
   exact List.map_congr_left fun v hv=>tr_g (allGA_mem hr hv)
  rw [List.map_cons,List.map_cons,hrm,hv1,hv2]
  rfl
 rw [he] at h
 refine callsIn_wide.1 (CallsIn.mono h fun e W' hq=>?_)
 cases e with
 |returned u =>
  obtain⟨v,h',nx',ι',rfl,_,_,hb2,_,_,rfl⟩:=hq
  exact⟨rfl,hb2.kit⟩
 |_=>exact hq.elim
section
variable {H:Type}{enc:TypeId × Value→H}{P:Program}{w:World}{base:Nat}{spare:Nat→Bool}{held:Bool}
theorem trod_3 {t0 t1 t2:TypeId}{args:Array Value}{ds:List (DataW H)}{ps:List MemPlace}(h:DataW.TrodAll enc P w base spare held [t0,t1,t2] args.toList ds ps) :
  ∃ v0 v1 v2 d0 d1 d2 p0 p1 p2,args=#[v0,v1,v2]∧ds=[d0,d1,d2]∧ps=p0++(p1++p2)∧DataW.Trod enc P w base spare held t0 v0 d0 p0∧DataW.Trod enc P w base spare held t1 v1 d1 p1 ∧
    DataW.Trod enc P w base spare held t2 v2 d2 p2:=by
 obtain⟨v0,x0,d0,y0,p0,q0,e0,rfl,rfl,h0,r0⟩:=trodAll_cons h
 obtain⟨v1,x1,d1,y1,p1,q1,rfl,rfl,rfl,h1,r1⟩:=trodAll_cons r0
 obtain⟨v2,x2,d2,y2,p2,q2,rfl,rfl,rfl,h2,r2⟩:=trodAll_cons r1
 obtain⟨rfl,rfl,rfl⟩:=trodAll_nil r2
 exact⟨v0,v1,v2,d0,d1,d2,p0,p1,p2,Array.ext' e0,rfl,by simp,h0,h1,h2⟩
end
theorem pt_el {H:Type}{enc:TypeId × Value→H}{W:World}{held:Bool}{fuel:Nat}{cs:List Value}{x:DataW H × List MemPlace}(h:DataW.trod enc Tryz.prog W 0 (fun _=>true) held fuel 24 cs=some x):∃ a,cs=elP.fl a:=by
 obtain⟨a,b,e⟩:=pt_cells h
 exact⟨(a,b),e⟩
theorem len6 {α:Type}{l:List α}(h:l.length=6):∃ a b c d e f,l=[a,b,c,d,e,f]:=by
 match l,h with
 |[a,b,c,d,e,f],_=>exact⟨a,b,c,d,e,f,rfl⟩
theorem len3' {α:Type}{l:List α}(h:l.length=3):∃ a b c,l=[a,b,c]:=by
 match l,h with
 |[a,b,c],_=>exact⟨a,b,c,rfl⟩
theorem cells32':Tryz.prog.cellsOf 32=6:=by kernel_rfl
theorem tg_el {H:Type}{enc:TypeId × Value→H}{W:World}{held:Bool}{fuel:Nat}{cs:List Value}{x:DataW H × List MemPlace}(h:DataW.trod enc Tryz.prog W 0 (fun _=>true) held fuel 32 cs=some x):∃ a,cs=elT.fl a:=by
 obtain⟨xs,n,_,_,hlen,hxl,hf⟩:=DataW.trod_struct Tryz.underlying32 h
 rw [cells32'] at hlen
 obtain⟨c0,c1,c2,c3,c4,c5,rfl⟩:=len6 hlen
 obtain⟨x0,x1,x2,rfl⟩:=len3' hxl
 have h0:DataW.trod enc Tryz.prog W 0 (fun _=>true) held n 24 [c0,c1]=some x0:=by simpa [Tryz.cells24] using hf 0 _ rfl
 have h1:DataW.trod enc Tryz.prog W 0 (fun _=>true) held n 24 [c2,c3]=some x1:=by simpa [Tryz.cells24] using hf 1 _ rfl
 have h2:DataW.trod enc Tryz.prog W 0 (fun _=>true) held n 24 [c4,c5]=some x2:=by simpa [Tryz.cells24] using hf 2 _ rfl
 obtain⟨a,b,e1⟩:=pt_cells h0
 obtain⟨c,d,e2⟩:=pt_cells h1
 obtain⟨e,f,e3⟩:=pt_cells h2
 simp at e1 e2 e3
 exact⟨((a,b),(c,d),(e,f)),by rw [e1.1,e1.2,e2.1,e2.2,e3.1,e3.2];rfl⟩
set_option maxRecDepth 100000 in
theorem covers_lifted (os:Os)(started:os.Started)(H:Type)(enc:TypeId × Value→H) :
  ReturnsInHanded {} Tryz.checked os 4 .any (Rows.planeCoversSpec.pre6 enc Tryz.prog Tryz.f4 Rows.planeCoversRow.domain false) (Rows.planeCoversSpec.post enc Tryz.prog Tryz.f4 false true false false):=by
 refine returnsInHanded_of_change (C:=Tryz.checked) Tryz.own started (by kernel_rfl) Tryz.func4
  (ChangeSpec.witness6 (enc:=enc) (C:=Tryz.checked) false ⟨#[],#[.slice none 0 0,.slice none 0 0,.agg #[.int .i64 0,.int .i64 0]],[]⟩ 8 (by kernel_rfl) (by kernel_rfl) (by kernel_rfl) (by kernel_rfl)) ?_
 intro W base args ds gs before hval0 hW hcnd _
 have hval:∀ (j:Nat) t v,Tryz.f4.params[j]? = some t→args[j]? = some v→Value.okWide Tryz.prog W .any base t v:=hval0
 have hW':=hW
 obtain⟨p,q,hA0,hV,rfl,hfz,hnd⟩:=hW
 have hA:DataW.TrodAll enc Tryz.prog W 0 (fun _=>true) true Tryz.f4.params.toList args.toList ds p:=hA0
 rw [Tryz.params4] at hA hval
 obtain⟨v0,v1,v2,d0,d1,d2,p0,p1,p2,rfl,rfl,rfl,h0,h1,h2⟩:=trod_3 hA
 obtain⟨rfl,rfl⟩:=trodVars_none hV
 obtain⟨a0,len,cap,rfl⟩:=okWide_slice Tryz.underlying22 (hval 0 22 v0 rfl rfl)
 obtain⟨a1,len1,cap1,rfl⟩:=okWide_slice Tryz.underlying26 (hval 1 26 v1 rfl rfl)
 obtain⟨l,c,loc,e1,e2,e3⟩:=open_list elP (by decide) Tryz.underlying22 Tryz.cells24 pt_el h0
 obtain⟨ts,c',loc',e1',e2',e3'⟩:=open_list elT (by decide) Tryz.underlying26 cells32' tg_el h1
 obtain⟨a,rfl⟩:=open_pt (hval 2 24 v2 rfl rfl) h2
 obtain⟨ax,ay⟩:=a
 clear hA0 hval0
 simp only [List.append_nil] at hW'
 have hlt:∀ x∈p0++(p1++p2),x.block<W.heap.size:=fun x hx=>by simpa using hW'.lt x hx
 refine (law_calls_2r elP elT (f:=4) (r:=[ptv (ax,ay)]) (.cons x19 (.cons d35 (.cons x34 (.cons x17 (.cons d14 (.cons x40 .nil)))))) rfl (law4 l ts ax ay c c') e1 e2 e3 e1' e2' e3').mono fun e W' ⟨he,hb⟩=>?_
 subst he
 refine⟨_,rfl,_,_,_,[],p0++(p1++p2),[],hW',trodAll_mk1 (shutBool true),?_,rfl,hb.frame _,fun h=>by cases h⟩
 exact trodAll_mk3 (Below.trod Tryz.laidOut (by kernel_rfl) (of_decide_eq_true (by kernel_rfl)) h0 hb (fun x hx=>hlt x (List.mem_append.2 (.inl hx)))) (Below.trod Tryz.laidOut (by kernel_rfl) (of_decide_eq_true (by kernel_rfl)) h1 hb (fun x hx=>hlt x (List.mem_append.2 (.inr (List.mem_append.2 (.inl hx)))))) (Below.trod Tryz.laidOut (by kernel_rfl) (of_decide_eq_true (by kernel_rfl)) h2 hb (fun x hx=>hlt x (List.mem_append.2 (.inr (List.mem_append.2 (.inr hx))))))
theorem covers_holds:Rows.PlaneCoversSaid :=
 OpenClaim.holds_of_wide 4 Tryz.f4 rfl rfl rfl rfl rfl rfl rfl ⟨rfl,rfl,rfl,rfl,rfl⟩ rfl rfl rfl rfl rfl (by kernel_rfl) Tryz.func4 (by kernel_rfl)
  (of_decide_eq_true (by kernel_rfl)) (by unfold Func.isWrapper;first|(rw [if_pos (by decide +kernel)];kernel_rfl)|(rw [if_neg (by decide +kernel)];exact⟨rfl,rfl⟩))
  (fun os started H enc _=>covers_lifted os started H enc)
#print axioms covers_holds
end Go.Proofs.YtoekkmbbbllogaaGreat
end
