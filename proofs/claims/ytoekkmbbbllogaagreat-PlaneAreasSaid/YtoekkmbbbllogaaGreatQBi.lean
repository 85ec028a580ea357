/-
  Parts of a proof. No condition.
-/
import Derived.Test.YtoekkmbbbllogaaGreatQAt
import Derived.Test.YtoekkmbbbllogaaGreatQAv
import Derived.Test.YtoekkmbbbllogaaGreatQAw
import Derived.Test.YtoekkmbbbllogaaGreatQBb
import Derived.Test.YtoekkmbbbllogaaGreatQBg
import Derived.Test.YtoekkmbbbllogaaGreatQBh
import Derived.Test.YtoekkmbbbllogaaGreatRows
import Derived.ProofKit
import Derived.Lib.SmallJoins
import Derived.Deep.Slices
import Derived.Deep.Fields
set_option linter.unusedSimpArgs false
set_option linter.unusedVariables false
noncomputable section
namespace Go.Aw
def clo_normal:Clo:=⟨23,some (4,2,[iv 4,iv 4,iv 4,iv 2,iv 4,iv 0,iv 0,iv 0]),[],.tuple #[.slice (some ⟨0,0,none⟩) 3 3,iv 0],[(0,.cells true false 2 [iv 0,iv 0,iv 4,iv 0,iv 4,iv 4])],1,[(0,83)]⟩
theorem clo_normal_ok:CloOK cfg0 40 clo_normal:=⟨by decide +kernel,by decide +kernel⟩
def clo_triangles:Clo:=⟨9,some (4,2,[iv 0,iv 0,iv 4,iv 0,iv 4,iv 4,iv 0,iv 4]),[],.tuple #[.slice (some ⟨0,0,none⟩) 2 2,iv 0],[(0,.cells true false 6 [iv 0,iv 4,iv 0,iv 0,iv 4,iv 0,iv 4,iv 0,iv 4,iv 4,iv 0,iv 4])],1,[(0,102)]⟩
theorem clo_triangles_ok:CloOK cfg0 40 clo_triangles:=⟨by decide +kernel,by decide +kernel⟩
def clo_hull:Clo:=⟨25,some (4,2,[iv 0,iv 0,iv 2,iv 0,iv 4,iv 0,iv 2,iv 1]),[],.tuple #[.slice (some ⟨0,0,none⟩) 3 3,iv 0],[(0,.cells true false 2 [iv 0,iv 0,iv 4,iv 0,iv 2,iv 1])],1,[(0,35)]⟩
theorem clo_hull_ok:CloOK cfg0 40 clo_hull:=⟨by decide +kernel,by decide +kernel⟩
def clo_split:Clo:=⟨27,some (2,4,[iv 0,iv 0,iv 4,iv 0,iv 2,iv 0,iv 2,iv 3]),[],.tuple #[.slice (some ⟨0,0,none⟩) 3 3,iv 0],[(0,.cells true false 4 [iv 0,iv 0,iv 2,iv 0,iv 2,iv 0,iv 2,iv 3,iv 2,iv 0,iv 4,iv 0])],1,[(0,116)]⟩
theorem clo_split_ok:CloOK cfg0 40 clo_split:=⟨by decide +kernel,by decide +kernel⟩
def clo_sweep:Clo:=⟨17,some (2,4,[iv 0,iv 0,iv 4,iv 0,iv 1,iv 2,iv 3,iv 1]),[],.tuple #[.slice (some ⟨0,0,none⟩) 3 3,iv 0],[(0,.cells false false 3 [iv 0,iv 1,.slice (some ⟨1,0,none⟩) 1 1,iv 1,iv 3,.slice (some ⟨2,0,none⟩) 2 2,iv 3,iv 4,.slice (some ⟨3,0,none⟩) 1 1]),(1,.cells false false 1 [iv 0]),(2,.cells false false 1 [iv 0,iv 1]),(3,.cells false false 1 [iv 0])],4,[(0,105),(1,31),(2,69),(3,90)]⟩
theorem clo_sweep_ok:CloOK cfg0 40 clo_sweep:=⟨by decide +kernel,by decide +kernel⟩
def clo_cross:Clo:=⟨31,none,[sg 0 0 3 1,sg 0 1 1 0],.tuple #[.agg #[iv 3,iv 4],.agg #[iv 1,iv 4],.bool true],[],0,[]⟩
theorem clo_cross_ok:CloOK cfg0 40 clo_cross:=⟨by decide +kernel,by decide +kernel⟩
def clo_where1:Clo:=⟨15,some (4,2,[iv 0,iv 0,iv 4,iv 0,iv 4,iv 4,iv 0,iv 4]),[pt 4 1],.int .u8 1,[],0,[]⟩
theorem clo_where1_ok:CloOK cfg0 40 clo_where1:=⟨by decide +kernel,by decide +kernel⟩
def clo_where2:Clo:=⟨15,some (4,2,[iv 0,iv 0,iv 4,iv 0,iv 4,iv 4,iv 0,iv 4]),[pt 2 2],.int .u8 2,[],0,[]⟩
theorem clo_where2_ok:CloOK cfg0 40 clo_where2:=⟨by decide +kernel,by decide +kernel⟩
def clos:List Clo:=[clo_normal,clo_triangles,clo_hull,clo_split,clo_sweep,clo_cross,clo_where1,clo_where2]
theorem clos_ok:∀ E∈clos,CloOK cfg0 40 E:=by
 intro E hE
 simp only [clos,List.mem_cons,List.not_mem_nil,or_false] at hE
 rcases hE with rfl|rfl|rfl|rfl|rfl|rfl|rfl|rfl
 ·exact clo_normal_ok
 ·exact clo_triangles_ok
 ·exact clo_hull_ok
 ·exact clo_split_ok
 ·exact clo_sweep_ok
 ·exact clo_cross_ok
 ·exact clo_where1_ok
 ·exact clo_where2_ok
def cfg1:Cfg:={ A:=fastA,T:=tyT,FT:=look ftL,PL:=plF,PR:=fun _=>false,X:=cloX clos,M:=1000 }
theorem cfg1_ok:CfgOK Go.Proofs.Tryz.prog cfg1:=cfg_ok _ (cloXOK cfg0_ok rfl clos_ok) _ _
theorem alive_B:wcall cfg1 (cloXB clos) 40 false 8 [] [] 0 (fun v _ _=>sameT v (.bool true))=true:=by decide +kernel
end Go.Aw
end

noncomputable section
namespace Go.Aw
theorem x19:XOK Go.Proofs.Tryz.prog X19.1 X19.2 :=
 gX_ok (vcall_ok cfg1_ok 40).1 fun args v hs=>by
  have:args=[]∧v=.bool true:=by
   unfold s0 at hs
   split at hs
   ·injection hs with hs;injection hs with _ h2;exact⟨rfl,h2.symm⟩
   ·cases hs
  obtain⟨rfl,rfl⟩:=this
  exact⟨rfl,rfl,wcall_tw (cloTwX rfl) 40 false 8 [] [] 0 _ (fun u _ _=>u=.bool true) (fun u h nx e=>sameT_eq e) alive_B⟩
end Go.Aw
namespace Go.Proofs.YtoekkmbbbllogaaGreat
open Go.ChangeShapes Go.WideShapes Go.ChangeAt Go.RowKit Go.Aw Go.Joins
theorem Tryz.own:ownKnob Tryz.prog.godebug=none:=by kernel_rfl
theorem Tryz.laidOut:laidOutB Tryz.prog=true:=by kernel_rfl
theorem Tryz.cells24:Tryz.prog.cellsOf 24=2:=by kernel_rfl
theorem shutBool {H:Type}{enc:TypeId × Value→H}{W:World}{base:Nat}{sp:Nat→Bool}{held:Bool}(b:Bool):DataW.Trod enc Tryz.prog W base sp held 4 (.bool b) (.lit (.bool b)) []:=⟨1,by simp [DataW.trod,Value.cells,Tryz.underlying4]⟩
theorem Tryz.cells3:Tryz.prog.cellsOf 3=1:=by kernel_rfl
section
variable {H:Type}{enc:TypeId × Value→H}{w:World}{base:Nat}{spare:Nat→Bool}{held:Bool}
theorem len2 {α:Type}{l:List α}(h:l.length=2):∃ a b,l=[a,b]:=by
 match l,h with
 |[a,b],_=>exact⟨a,b,rfl⟩
theorem pt_cells {fuel:Nat}{cs:List Value}{x:DataW H × List MemPlace}(h:DataW.trod enc Tryz.prog w base spare held fuel 24 cs=some x):∃ a b:Int,cs=[.int .i64 a,.int .i64 b]:=by
 obtain⟨xs,n,_,_,hlen,hxl,hf⟩:=DataW.trod_struct Tryz.underlying24 h
 rw [Tryz.cells24] at hlen
 obtain⟨c0,c1,rfl⟩:=len2 hlen
 obtain⟨x0,x1,rfl⟩:=len2 hxl
 have h0:DataW.trod enc Tryz.prog w base spare held n 3 [c0]=some x0:=by simpa [Tryz.cells3] using hf 0 _ rfl
 have h1:DataW.trod enc Tryz.prog w base spare held n 3 [c1]=some x1:=by simpa [Tryz.cells3] using hf 1 _ rfl
 obtain⟨a,ea,_⟩:=DataW.trod_int Tryz.underlying3 h0
 obtain⟨b,eb,_⟩:=DataW.trod_int Tryz.underlying3 h1
 simp at ea eb
 exact⟨a,b,by rw [ea,eb]⟩
set_option maxRecDepth 100000 in
theorem open_pt {b0:Nat}{v:Value}{d:DataW H}{p:List MemPlace}(hv:Value.okWide Tryz.prog w .any b0 24 v)(h:DataW.Trod enc Tryz.prog w base spare held 24 v d p):∃ q:Int × Int,v=ptv q:=by
 obtain⟨cs,rfl,hsz⟩:=okWide_struct Tryz.underlying24 hv
 obtain⟨fuel,hf⟩:=h
 obtain⟨a,b,e⟩:=pt_cells hf
 exact⟨(a,b),by show _=Value.agg _;congr 1;exact Array.ext' e⟩
end
end Go.Proofs.YtoekkmbbbllogaaGreat
end

noncomputable section
namespace Go.Aw
set_option maxRecDepth 100000
theorem tS_right {a b p:Int × Int}(ha:rightS a=true)(hb:rightS b=true)(hp:rightS p=true):tS a b p=turnS a b p:=by
 unfold tS
 rw [ha,hb,hp]
 rfl
theorem cIn_has {ts:List Tg}{p:Int × Int}(hp:rightS p=true):∀ {n:Nat},(∀ i,i<n→okTg (atT ts i)=true)→(0<cIn ts p n↔∃ i,i<n∧hasT (atT ts i) p)
 |0,_=>⟨fun h=>by simp [cIn] at h,fun ⟨i,h,_⟩=>absurd h (Nat.not_lt_zero i)⟩
 |n+1,h=>by
  have ih:=cIn_has (n:=n) hp fun i hi=>h i (by omega)
  have hb:=cIn_B ts p n
  obtain⟨h1,h2,h3,_⟩:=okTg_right (h n (by omega))
  rw [cIn,tS_right h1 h2 hp,tS_right h2 h3 hp,tS_right h3 h1 hp]
  by_cases g:hasT (atT ts n) p
  ·have g':=g
   unfold hasT at g'
   rw [if_pos g']
   exact⟨fun _=>⟨n,by omega,g⟩,fun _=>by omega⟩
  ·have g':=g
   unfold hasT at g'
   rw [if_neg g',Int.add_zero,ih]
   constructor
   ·rintro ⟨i,hi,hh⟩
    exact⟨i,by omega,hh⟩
   ·rintro ⟨i,hi,hh⟩
    by_cases e:i=n
    ·rw [e] at hh;exact absurd hh g
    ·exact⟨i,by omega,hh⟩
theorem cov_counts {l:List (Int × Int)}{ts:List Tg}(hc:Cov l ts){p:Int × Int}(hp:rightS p=true):cIs ts p ts.length≤1∧(0<cIn ts p ts.length↔WhV l p≠0):=by
 refine⟨cov_in hc (p:=p) (F:=cIs ts p) rfl fun i hi=>?_,(cIn_has hp hc.ok).trans (cov_has hc hp)⟩
 obtain⟨h1,h2,h3,_⟩:=okTg_right (hc.ok i hi)
 rw [cIs,tS_right h1 h2 hp,tS_right h2 h3 hp,tS_right h3 h1 hp]
 by_cases g:inT3 (atT ts i) p
 ·have g':=g
  unfold inT3 at g'
  rw [if_pos g']
  exact .inl ⟨rfl,g⟩
 ·have g':=g
  unfold inT3 at g'
  rw [if_neg g']
  exact .inr (Int.add_zero _)
theorem area3 {t:Tg}(h:okTg t=true):Area2V [t.1,t.2.1,t.2.2]=crossI t.1 t.2.1 t.2.2∧0<crossI t.1 t.2.1 t.2.2∧crossI t.1 t.2.1 t.2.2≤600000000:=by
 obtain⟨h1,h2,h3,_⟩:=okTg_right h
 have hr:[t.1,t.2.1,t.2.2].all rightS=true:=by simp [h1,h2,h3]
 have e:areaI [t.1,t.2.1,t.2.2] [t.1,t.2.1,t.2.2].length=crossI t.1 t.2.1 t.2.2:=by
  rw [area_ar (by simp),ar_three]
  unfold crossI
  grind
 have hb:=(areaI_B hr [t.1,t.2.1,t.2.2].length (Nat.le_refl _)).2
 rw [e] at hb
 refine⟨?_,okTg_pos h,by simpa using hb⟩
 unfold Area2V
 rw [if_pos ⟨by simp,hr⟩,e]
theorem aT_B {ts:List Tg}:∀ {n:Nat},(∀ i,i<n→okTg (atT ts i)=true)→0≤aT ts n∧aT ts n≤600000000*n
 |0,_=>⟨Int.le_refl _,Int.le_refl _⟩
 |n+1,h=>by
  have:=aT_B (n:=n) fun i hi=>h i (by omega)
  have:=area3 (h n (by omega))
  rw [aT]
  omega
def e4 (n m c1 c2:Nat)(s j:Int):List (Nat × Value):=[(0,.slice (some ⟨0,0,none⟩) n c1),(1,.slice (some ⟨1,0,none⟩) m c2),(5,.pointer (some ⟨2,0,none⟩)),(7,iv s),(28,.slice (some ⟨1,0,none⟩) m c2),(29,iv m),(30,iv j)]
def h4 (l:List (Int × Int))(ts:List Tg)(p:Int × Int):Heap:=[(0,.cells false true 2 (flat elP.fl l)),(1,.cells false true 6 (flat elT.fl ts)),(2,.cells true false 1 [iv p.1,iv p.2])]
end Go.Aw
end

noncomputable section
namespace Go.Aw
def clT (b r a z:Pq):Prop:=0≤crossI b r z∧0≤crossI r a z∧0≤crossI a b z
theorem inT_clT {a b v z:Pq}(h:0<(1:Int)*crossI b v a):inT (triOf a b v 1 h) z↔clT b v a z:=by
 unfold inT clT
 rw [triOf_A,triOf_B,triOf_V]
 have e1:crossI z v a=crossI v a z:=by unfold crossI;grind
 have e2:crossI b z a=crossI a b z:=by unfold crossI;grind
 rw [e1,e2,Int.one_mul,Int.one_mul,Int.one_mul]
theorem cyc3 (a b c:Pq):crossI b c a=crossI a b c:=by unfold crossI;grind
theorem vec_cr' (p a b:Pq):dt (vec 1 p a) (vec 1 p b)=crossI a b p:=by unfold dt vec crossI;simp only;grind
theorem tri_sum1' (p a b c:Pq):crossI a b p+crossI b c p+crossI c a p=crossI a b c:=by unfold crossI;grind
theorem wn_t' (u p a b c:Pq):fs (wn u 1 p) [a,b,c]=tI (dt u (vec 1 p a)) (dt u (vec 1 p b)) (dt u (vec 1 p c)) (crossI a b p) (crossI b c p) (crossI c a p):=by
 rw [wn_tri,vec_cr',vec_cr',vec_cr']
theorem tri_id1' (u p a b c:Pq):dt u (vec 1 p a)*crossI b c p+dt u (vec 1 p b)*crossI c a p+dt u (vec 1 p c)*crossI a b p=0:=by
 rw [← vec_cr',← vec_cr',← vec_cr']
 exact tri_id _ _ _ _
theorem tri_strict {u p a b c:Pq}(hu:u≠(0,0))(h1:0<crossI a b p)(h2:0<crossI b c p)(h3:0<crossI c a p):fs (wn u 1 p) [a,b,c]=1:=by
 rw [wn_t']
 refine tri_in (tri_id1' u p _ _ _) h1 h2 h3 fun ⟨g1,g2,g3⟩=>hu ?_
 rw [← vec_cr'] at h1
 generalize vec 1 p a=x at *
 generalize vec 1 p b=y at *
 have k1:dt x y*u.1=0:=by unfold dt at g1 g2 ⊢;clear h1 h2 h3 g3;grind
 have k2:dt x y*u.2=0:=by unfold dt at g1 g2 ⊢;clear h1 h2 h3 g3;grind
 exact Prod.ext ((mul_zero_or k1).resolve_left (by omega)) ((mul_zero_or k2).resolve_left (by omega))
theorem tri_dir {a b c p:Pq}(hp:0<crossI a b c)(hh:clT a b c p):∃ u:Pq,u≠(0,0)∧fs (wn u 1 p) [a,b,c]=1:=by
 obtain⟨h1,h2,h3⟩:=hh
 have hs:=tri_sum1' p a b c
 by_cases he:crossI a b p=crossI b c p∧crossI b c p=crossI c a p
 ·exact⟨(1,0),by decide,tri_strict (by decide) (by omega) (by omega) (by omega)⟩
 ·obtain⟨u,hu⟩:∃ u:Pq,u=((vec 1 p a).1+(vec 1 p b).1+(vec 1 p c).1,(vec 1 p a).2+(vec 1 p b).2+(vec 1 p c).2):=⟨_,rfl⟩
  have d1:dt u (vec 1 p a)=crossI c a p - crossI a b p:=by rw [hu];unfold dt vec crossI;simp only;clear hp hs h1 h2 h3 he;grind
  have d2:dt u (vec 1 p b)=crossI a b p - crossI b c p:=by rw [hu];unfold dt vec crossI;simp only;clear hp hs h1 h2 h3 he;grind
  have d3:dt u (vec 1 p c)=crossI b c p - crossI c a p:=by rw [hu];unfold dt vec crossI;simp only;clear hp hs h1 h2 h3 he;grind
  refine⟨u,fun g=>?_,?_⟩
  ·rw [g] at d1 d2
   have z:∀ q:Pq,dt (0,0) q=0:=fun q=>by unfold dt;simp
   rw [z] at d1 d2
   omega
  ·rw [wn_t',d1,d2,d3]
   exact tri_mid h1 h2 h3 he
theorem tri_has {u a b c p:Pq}(hp:0<crossI a b c)(hw:fs (wn u 1 p) [a,b,c]≠0):clT a b c p:=by
 have hs:=tri_sum1' p a b c
 have hid:=tri_id1' u p a b c
 rw [wn_t'] at hw
 refine⟨Int.not_lt.1 fun g=>hw (tri_off hid (by omega) g),Int.not_lt.1 fun g=>hw ?_,Int.not_lt.1 fun g=>hw ?_⟩
 ·have:=tri_off (A:=dt u (vec 1 p b)) (B:=dt u (vec 1 p c)) (C:=dt u (vec 1 p a)) (α:=crossI b c p) (β:=crossI c a p) (γ:=crossI a b p) (by omega) (by omega) g
  unfold tI at this ⊢
  omega
 ·have:=tri_off (A:=dt u (vec 1 p c)) (B:=dt u (vec 1 p a)) (C:=dt u (vec 1 p b)) (α:=crossI c a p) (β:=crossI a b p) (γ:=crossI b c p) (by omega) (by omega) g
  unfold tI at this ⊢
  omega
theorem clT_corner {a b c z:Pq}(h:0<crossI a b c)(hz:z=a∨z=b∨z=c):clT a b c z:=by
 have e1:crossI b c a=crossI a b c:=cyc3 a b c
 have e2:crossI c a b=crossI a b c:=by rw [cyc3,cyc3]
 have z1:∀ x y:Pq,crossI x y x=0:=fun x y=>by unfold crossI;grind
 have z2:∀ x y:Pq,crossI x y y=0:=fun x y=>by unfold crossI;grind
 unfold clT
 rcases hz with rfl|rfl|rfl
 ·rw [z1,e1,z2];omega
 ·rw [z2,z1,e2];omega
 ·rw [z2,z1];omega
theorem Simp.three {P:List Pq}(h:Simp P)(ha:0<ar P):∃ v a K b,SameC P (v::a::(K++[b]))∧Simp (v::a::(K++[b]))∧(∀ p∈a::(K++[b]),lx v p)∧0<crossI b v a ∧
  (K=[]∨(K≠[]∧(∀ z∈K,¬ clT b v a z)∧Simp (a::(K++[b]))∧0<ar (a::(K++[b])))∨∃ N1 x N2,K=N1++x::N2∧Simp (v::a::(N1++[x]))∧0<ar (v::a::(N1++[x]))∧Simp (v::x::(N2++[b]))∧0<ar (v::x::(N2++[b]))):=by
 obtain⟨A,w,B,a,K,b,e1,e2,hs,hm,e3⟩:=h.least
 have hS:SameC P (w::a::(K++[b])):=by
  have:=SameC.rot A (w::B)
  rw [← e1,e2] at this
  exact this
 have hcr:0<(1:Int)*crossI b w a:=by
  obtain⟨τ,hτ,ht⟩:=sg_of (turns_min hs (hm a (by simp)) (hm b (by simp)))
  have:=(TE _).1 w a K b τ hτ rfl hs hm ht
  rw [← e3] at this
  rcases hτ with rfl|rfl
  ·exact ht
  ·omega
 refine⟨w,a,K,b,hS,hs,hm,by omega,?_⟩
 by_cases hK:K=[]
 ·exact .inl hK
 ·by_cases hi:∃ q∈K,inT (triOf a b w 1 hcr) q
  ·obtain⟨x,hx,hxi,hmax⟩:=argmax (fun q=>at3 (triOf a b w 1 hcr).V q) _ K hi
   obtain⟨N1,N2,rfl⟩:=List.append_of_mem hx
   have e0:w::a::((N1++x::N2)++[b])=w::a::(N1++x::(N2++[b])):=by simp
   have hP':Simp (w::a::(N1++x::(N2++[b]))):=e0▸hs
   obtain⟨d1,d2⟩:=hP'.dia (triOf a b w 1 hcr) hxi hmax
   obtain⟨iA,iB⟩:=hP'.inside (triOf a b w 1 hcr) hxi
   rw [triOf_A] at iA
   rw [triOf_B] at iB
   have t1:=(TE _).1 w a N1 x 1 (.inl rfl) rfl d1 (fun q hq=>hm q (by
    simp only [List.mem_cons,List.mem_append,List.not_mem_nil,or_false] at hq ⊢
    rcases hq with hq|hq|hq
    ·exact .inl hq
    ·exact .inr (.inl (.inl hq))
    ·exact .inr (.inl (.inr (.inl hq))))) iB
   have t2:=(TE _).1 w x N2 b 1 (.inl rfl) rfl d2 (fun q hq=>hm q (by
    simp only [List.mem_cons,List.mem_append,List.not_mem_nil,or_false] at hq ⊢
    rcases hq with hq|hq|hq
    ·exact .inr (.inl (.inr (.inl hq)))
    ·exact .inr (.inl (.inr (.inr hq)))
    ·exact .inr (.inr hq))) iA
   exact .inr (.inr ⟨N1,x,N2,rfl,d1,by omega,d2,by omega⟩)
  ·have hno:∀ q∈K,¬ inT (triOf a b w 1 hcr) q:=fun q hq g=>hi ⟨q,hq,g⟩
   have hE:=(TE _).2 w a K b 1 hcr (.inl rfl) rfl hs hm hK hno
   exact .inr (.inl ⟨hK,fun z hz g=>hno z hz ((inT_clT hcr).2 g),hs.ear hK _ hno,by omega⟩)
theorem wn_vertex:∀ (n:Nat) (P:List Pq),P.length=n→Simp P→0<ar P→∀ z∈P,∃ u:Pq,u≠(0,0)∧1≤fs (wn u 1 z) P:=fun n=>by
 induction n using Nat.strongRecOn with
 |_ n ih =>
  intro P hl hP ha z hz
  obtain⟨v,a,K,b,hS,hR,hm,hcr,hcase⟩:=hP.three ha
  have hlen:=hS.len
  simp only [List.length_cons,List.length_append,List.length_nil] at hlen
  have hz:=(hS.mem z).2 hz
  have nn:∀ (u:Pq) (Q:List Pq),Simp Q→0<ar Q→0≤fs (wn u 1 z) Q:=fun u Q h1 h2=>wn_nonneg u (by decide) z _ _ rfl h1 h2
  have hcr':0<crossI v a b:=by rw [cyc3 b v a];exact hcr
  have tn:∀ u:Pq,0≤wn u 1 z (b,v)+wn u 1 z (v,a)+wn u 1 z (a,b):=fun u=>by
   have:=(wn_tri01 u (N:=1) (by decide) z hcr').1
   rw [fs_three] at this
   exact this
  rcases hcase with hK|⟨hK,hno,h1,h2⟩|⟨N1,x,N2,rfl,h1,h2,h3,h4⟩
  ·subst hK
   obtain⟨u,hu,hw⟩:=tri_dir hcr' (clT_corner hcr' (by simpa using hz))
   exact⟨u,hu,by rw [← hS.fs];show 1≤fs (wn u 1 z) [v,a,b];omega⟩
  ·by_cases hzK:z∈K
   ·obtain⟨u,hu,hw⟩:=ih _ (by simp;omega) (a::(K++[b])) rfl h1 h2 z (by simp [hzK])
    refine⟨u,hu,?_⟩
    rw [← hS.fs,fs_ear (wn_anti u 1 z)]
    have:=tn u
    omega
   ·obtain⟨u,hu,hw⟩:=tri_dir (p:=z) hcr' (clT_corner hcr' (by
     simp only [List.mem_cons,List.mem_append,List.not_mem_nil,or_false] at hz
     rcases hz with hz|hz|hz|hz
     ·exact .inl hz
     ·exact .inr (.inl hz)
     ·exact absurd hz hzK
     ·exact .inr (.inr hz)))
    refine⟨u,hu,?_⟩
    rw [← hS.fs,fs_ear (wn_anti u 1 z)]
    rw [fs_three] at hw
    have:=nn u _ h1 h2
    omega
  ·have e0:v::a::((N1++x::N2)++[b])=v::a::(N1++x::(N2++[b])):=by simp
   have hz12:z∈v::a::(N1++[x])∨z∈v::x::(N2++[b]):=by
    simp only [List.mem_cons,List.mem_append,List.not_mem_nil,or_false] at hz ⊢
    rcases hz with hz|hz|(hz|hz|hz)|hz
    ·exact .inl (.inl hz)
    ·exact .inl (.inr (.inl hz))
    ·exact .inl (.inr (.inr (.inl hz)))
    ·exact .inl (.inr (.inr (.inr hz)))
    ·exact .inr (.inr (.inr (.inl hz)))
    ·exact .inr (.inr (.inr (.inr hz)))
   simp only [List.length_append,List.length_cons] at hlen
   rcases hz12 with hz|hz
   ·obtain⟨u,hu,hw⟩:=ih _ (by simp;omega) _ rfl h1 h2 z hz
    refine⟨u,hu,?_⟩
    rw [← hS.fs,e0,fs_dia (wn_anti u 1 z)]
    have:=nn u _ h3 h4
    omega
   ·obtain⟨u,hu,hw⟩:=ih _ (by simp;omega) _ rfl h3 h4 z hz
    refine⟨u,hu,?_⟩
    rw [← hS.fs,e0,fs_dia (wn_anti u 1 z)]
    have:=nn u _ h1 h2
    omega
theorem Simp.cutpos {r a b:Pq}{K:List Pq}(h:Simp (r::a::(K++[b])))(ha:0<ar (r::a::(K++[b])))(hK:K≠[])(hcr:0<crossI b r a)(hno:∀ z∈K,¬ clT b r a z):Simp (a::(K++[b]))∧0<ar (a::(K++[b])):=by
 have hcr1:0<(1:Int)*crossI b r a:=by omega
 have hQ:=h.ear hK (triOf a b r 1 hcr1) fun z hz g=>hno z hz ((inT_clT hcr1).1 g)
 refine⟨hQ,Classical.byContradiction fun hneg=>?_⟩
 have hlt:ar (a::(K++[b]))<0:=by have:=hQ.area;omega
 obtain⟨z,K',rfl⟩:=first_split hK
 obtain⟨u,hu,hw⟩:=wn_vertex _ (a::((z::K')++[b])).reverse rfl hQ.back (by rw [ar_back];omega) z (by simp)
 rw [fs_back (wn_anti u 1 z)] at hw
 have h0:=wn_nonneg u (N:=1) (by decide) z _ _ rfl h ha
 rw [fs_ear (wn_anti u 1 z)] at h0
 refine hno z (.head _) (tri_has (u:=u) hcr ?_)
 rw [fs_three]
 omega
structure Ear (P:List Pq) (b r a:Pq):Prop where
 s1:(b,r)∈cl P
 s2:(r,a)∈cl P
 pos:0<crossI b r a
 no:∀ z∈P,z≠b→z≠r→z≠a→¬ clT b r a z
theorem at_corner {P:List Pq}(h:Simp P){b r a:Pq}(s1:(b,r)∈cl P)(s2:(r,a)∈cl P):∃ K,SameC P (r::a::(K++[b])):=by
 obtain⟨R,hR⟩:=samec_from h.len s2
 have hS:=hR.simp h
 have hl:=hS.len
 obtain⟨K,c,hc⟩:=last_split (L:=R) (fun g=>by rw [g] at hl;simp at hl)
 rw [hc] at hR hS
 have h1:(b,r)∈cl (r::a::(K++[c])):=(hR.cl _).2 s1
 have:b=c:=(at_first hS.nodup h1).2.1 rfl
 rw [this]
 exact⟨K,hR⟩
theorem ear_wn {Q:List Pq}(hQ:Simp Q)(ha:0<ar Q){b r a:Pq}(he:Ear Q b r a){z:Pq}(hc:clT b r a z)(hoff:∀ e∈cl Q,offS 1 z e){u:Pq}(hu:u≠(0,0)):1≤fs (wn u 1 z) Q:=by
 obtain⟨u0,hu0,hw⟩:=tri_dir he.pos hc
 rw [wn_two (by decide) hu hu0 hoff]
 obtain⟨K,hS⟩:=at_corner hQ he.s1 he.s2
 have hR:=hS.simp hQ
 have haR:0<ar (r::a::(K++[b])):=by rw [hS.ar];exact ha
 rw [← hS.fs]
 rw [fs_three] at hw
 by_cases hK:K=[]
 ·subst hK
  show 1≤fs (wn u0 1 z) [r,a,b]
  rw [fs_three]
  omega
 ·have hn:=hR.nodup
  obtain⟨c1,c2⟩:=hR.cutpos haR hK he.pos fun y hy=>by
   have hyr:y≠r:=fun g=>(List.nodup_cons.1 hn).1 (by rw [← g];simp [hy])
   have hya:y≠a:=fun g=>(List.nodup_cons.1 (List.nodup_cons.1 hn).2).1 (by rw [← g];simp [hy])
   have hyb:y≠b:=fun g=>by
    have h3:=(List.nodup_cons.1 (List.nodup_cons.1 hn).2).2
    exact (List.nodup_append.1 h3).2.2 y hy b (by simp) g
   exact he.no y ((hS.mem y).1 (by simp [hy])) hyb hyr hya
  rw [fs_ear (wn_anti u0 1 z)]
  have:=wn_nonneg u0 (N:=1) (by decide) z _ _ rfl c1 c2
  omega
theorem off_of {P:List Pq}(h:Simp P){z:Pq}(hz:z∈P){e:Pq × Pq}(he:e∈cl P)(h1:z≠e.1)(h2:z≠e.2):offS 1 z e:=fun ⟨M,hM,ho⟩=>by
 rw [Int.mul_one] at ho
 rcases h.on hz he hM ho with g|g
 ·exact h1 g
 ·exact h2 g
theorem ear_part {P Q1 Q2:List Pq}(hP:Simp P)(ha:0<ar P)(h1:Simp Q1)(a1:0<ar Q1)(h2:Simp Q2)(a2:0<ar Q2)(hsum:∀ u z,fs (wn u 1 z) P=fs (wn u 1 z) Q1+fs (wn u 1 z) Q2){b r a:Pq}(he:Ear Q2 b r a){z:Pq}(hz1:z∈Q1)(hz2:z∉Q2)
  (hs:∀ e∈cl Q2,offS 1 z e):¬ clT b r a z:=fun hc=>by
 obtain⟨u,hu,hw⟩:=wn_vertex _ _ rfl h1 a1 z hz1
 have h3:=ear_wn h2 a2 he hc hs hu
 have h4:=wn_le1 u (N:=1) (by decide) z _ _ rfl hP ha
 rw [hsum] at h4
 omega
theorem Simp.ears:∀ (n:Nat) (P:List Pq),P.length=n→Simp P→0<ar P→∀ p q,(p,q)∈cl P→∃ b r a,Ear P b r a∧r≠p∧r≠q:=fun n=>by
 induction n using Nat.strongRecOn with
 |_ n ih =>
  intro P hl hP ha p q hpq
  obtain⟨v,a,K,b,hS,hR,hm,hcr,hcase⟩:=hP.three ha
  have hlen:=hS.len
  simp only [List.length_cons,List.length_append,List.length_nil] at hlen
  have haR:0<ar (v::a::(K++[b])):=by rw [hS.ar];exact ha
  have back:∀ {b' r a':Pq},Ear (v::a::(K++[b])) b' r a'→Ear P b' r a':=fun {b' r a'} h=>⟨(hS.cl _).1 h.s1,(hS.cl _).1 h.s2,h.pos,fun z hz=>h.no z ((hS.mem z).2 hz)⟩
  have hpq':=(hS.cl _).2 hpq
  have hn:=hR.nodup
  have hv:v∉a::(K++[b]):=(List.nodup_cons.1 hn).1
  have hcr2:0<crossI a b v:=by rw [← cyc3 a b v];exact hcr
  have hcr':0<crossI v a b:=by rw [cyc3 b v a];exact hcr
  rcases hcase with hK|⟨hK,hno,h1,h2⟩|⟨N1,x,N2,rfl,h1,h2,h3,h4⟩
  ·subst hK
   have hcl3:cl (v::a::([]++[b]))=[(v,a),(a,b),(b,v)]:=rfl
   have m1:(v,a)∈cl (v::a::([]++[b])):=by rw [hcl3];simp
   have m2:(a,b)∈cl (v::a::([]++[b])):=by rw [hcl3];simp
   have m3:(b,v)∈cl (v::a::([]++[b])):=by rw [hcl3];simp
   have n1:=hR.ne m1
   have n2:=hR.ne m2
   have n3:=hR.ne m3
   simp only at n1 n2 n3
   have oth:∀ z∈v::a::([]++[b]),z=v∨z=a∨z=b:=fun z hz=>by simpa using hz
   rw [hcl3] at hpq'
   simp only [List.mem_cons,Prod.mk.injEq,List.not_mem_nil,or_false] at hpq'
   rcases hpq' with ⟨rfl,rfl⟩|⟨rfl,rfl⟩|⟨rfl,rfl⟩
   ·exact⟨q,b,p,back ⟨m2,m3,hcr2,fun z hz g1 g2 g3=>by rcases oth z hz with g|g|g <;> contradiction⟩,n3,fun e=>n2 e.symm⟩
   ·exact⟨q,v,p,back ⟨m3,m1,hcr,fun z hz g1 g2 g3=>by rcases oth z hz with g|g|g <;> contradiction⟩,n1,fun e=>n3 e.symm⟩
   ·exact⟨q,a,p,back ⟨m1,m2,hcr',fun z hz g1 g2 g3=>by rcases oth z hz with g|g|g <;> contradiction⟩,n2,fun e=>n1 e.symm⟩
  ·have mva:(v,a)∈cl (v::a::(K++[b])):=by rw [cl_first];exact .head _
   have mbv:(b,v)∈cl (v::a::(K++[b])):=by rw [cl_first];exact .tail _ (List.mem_append.2 (.inr (.head _)))
   by_cases hpv:v=p∨v=q
   ·obtain⟨b',r,a',he,r1,r2⟩:=ih _ (by simp;omega) (a::(K++[b])) rfl h1 h2 b a ((cl_pe_or (w:=v) _).2 (.inr rfl))
    have s1:(b',r)∈pe (a::(K++[b])):=((cl_pe_or (w:=v) _).1 he.s1).resolve_right fun g=>r2 (congrArg Prod.snd g)
    have s2:(r,a')∈pe (a::(K++[b])):=((cl_pe_or (w:=v) _).1 he.s2).resolve_right fun g=>r1 (congrArg Prod.fst g)
    have t1:(b',r)∈cl (v::a::(K++[b])):=by rw [cl_first];exact .tail _ (List.mem_append.2 (.inl s1))
    have t2:(r,a')∈cl (v::a::(K++[b])):=by rw [cl_first];exact .tail _ (List.mem_append.2 (.inl s2))
    have hr:r∈a::(K++[b]):=(pe_mem s1).2
    have hrv:r≠v:=fun g=>hv (by rw [← g];exact hr)
    refine⟨b',r,a',back ⟨t1,t2,he.pos,fun z hz g1 g2 g3 hc=>?_⟩,?_⟩
    ·rcases List.mem_cons.1 hz with rfl|hz
     ·have hp1:0<(1:Int)*crossI b' r a':=by have:=he.pos;omega
      exact out_min (triOf a' b' r 1 hp1) (hm a' (pe_mem s2).2) (hm b' (pe_mem s1).1) (hm r hr) ((inT_clT hp1).2 hc)
     ·exact he.no z hz g1 g2 g3 hc
    ·obtain⟨f1,f2,-⟩:=at_first hn hpq'
     simp only at f1 f2
     rcases hpv with g|g
     ·rw [← g,f1 g.symm]
      exact⟨hrv,r2⟩
     ·rw [← g,f2 g.symm]
      exact⟨r1,hrv⟩
   ·refine⟨b,v,a,back ⟨mbv,mva,hcr,fun z hz g1 g2 g3=>?_⟩,fun g=>hpv (.inl g),fun g=>hpv (.inr g)⟩
    simp only [List.mem_cons,List.mem_append,List.not_mem_nil,or_false] at hz
    rcases hz with hz|hz|hz|hz
    ·exact absurd hz g2
    ·exact absurd hz g3
    ·exact hno z hz
    ·exact absurd hz g1
  ·have e0:v::a::((N1++x::N2)++[b])=v::a::(N1++x::(N2++[b])):=by simp
   simp only [List.length_append,List.length_cons] at hlen
   rw [e0] at hn hpq' hR haR back
   have hsum:∀ u z,fs (wn u 1 z) (v::a::(N1++x::(N2++[b])))=fs (wn u 1 z) (v::a::(N1++[x]))+fs (wn u 1 z) (v::x::(N2++[b])):=fun u z=>fs_dia (wn_anti u 1 z) v a N1 x N2 b
   have hsum2:∀ u z,fs (wn u 1 z) (v::a::(N1++x::(N2++[b])))=fs (wn u 1 z) (v::x::(N2++[b]))+fs (wn u 1 z) (v::a::(N1++[x])):=fun u z=>by rw [hsum];omega
   have hpe:pe (a::(N1++x::(N2++[b])))=pe (a::(N1++[x]))++pe (x::(N2++[b])):=by
    have:=pe_app (a::N1) x (N2++[b])
    simpa using this
   have hcl:cl (v::a::(N1++x::(N2++[b])))=(v,a)::((pe (a::(N1++[x]))++pe (x::(N2++[b])))++[(b,v)]):=by
    have:=cl_first v a (N1++x::N2) b
    rw [← hpe]
    simpa using this
   have hc1:cl (v::a::(N1++[x]))=(v,a)::(pe (a::(N1++[x]))++[(x,v)]):=cl_first v a N1 x
   have hc2:cl (v::x::(N2++[b]))=(v,x)::(pe (x::(N2++[b]))++[(b,v)]):=cl_first v x N2 b
   -- the sides of the parts
   have in1:∀ e∈cl (v::a::(N1++[x])),e≠(x,v)→e∈cl (v::a::(N1++x::(N2++[b]))):=fun e he hne=>by
    rw [hc1] at he
    rw [hcl]
    rcases List.mem_cons.1 he with he|he
    ·rw [he];exact .head _
    ·rcases List.mem_append.1 he with he|he
     ·exact .tail _ (List.mem_append.2 (.inl (List.mem_append.2 (.inl he))))
     ·exact absurd (by simpa using he) hne
   have in2:∀ e∈cl (v::x::(N2++[b])),e≠(v,x)→e∈cl (v::a::(N1++x::(N2++[b]))):=fun e he hne=>by
    rw [hc2] at he
    rw [hcl]
    rcases List.mem_cons.1 he with he|he
    ·exact absurd he hne
    ·rcases List.mem_append.1 he with he|he
     ·exact .tail _ (List.mem_append.2 (.inl (List.mem_append.2 (.inr he))))
     ·exact .tail _ (List.mem_append.2 (.inr he))
   have hn':=hn
   rw [List.nodup_cons,List.nodup_cons,List.nodup_append,List.nodup_cons] at hn'
   obtain⟨nw,na,nN1,⟨nx,nN2⟩,ndis⟩:=hn'
   simp only [List.mem_cons,List.mem_append,List.not_mem_nil,or_false,not_or] at nw na nx
   -- corners of one part alone
   have only1:∀ z,z∈v::a::(N1++[x])→z≠v→z≠x→z∉v::x::(N2++[b]):=fun z hz g1 g2 hz2=>by
    simp only [List.mem_cons,List.mem_append,List.not_mem_nil,or_false] at hz hz2
    rcases hz with hz|hz|hz|hz
    ·exact g1 hz
    ·rcases hz2 with h|h|h|h
     ·exact g1 h
     ·exact g2 h
     ·exact na.2.2.1 (hz▸h)
     ·exact na.2.2.2 (hz▸h)
    ·rcases hz2 with h|h|h|h
     ·exact g1 h
     ·exact g2 h
     ·exact ndis z hz z (by simp [h]) rfl
     ·exact ndis z hz z (by simp [h]) rfl
    ·exact g2 hz
   have only2:∀ z,z∈v::x::(N2++[b])→z≠v→z≠x→z∉v::a::(N1++[x]):=fun z hz g1 g2 hz1=>only1 z hz1 g1 g2 hz
   have all:∀ z∈v::a::(N1++x::(N2++[b])),z∈v::a::(N1++[x])∨z∈v::x::(N2++[b]):=fun z hz=>by
    simp only [List.mem_cons,List.mem_append,List.not_mem_nil,or_false] at hz ⊢
    rcases hz with hz|hz|hz|hz|hz|hz
    ·exact .inl (.inl hz)
    ·exact .inl (.inr (.inl hz))
    ·exact .inl (.inr (.inr (.inl hz)))
    ·exact .inl (.inr (.inr (.inr hz)))
    ·exact .inr (.inr (.inr (.inl hz)))
    ·exact .inr (.inr (.inr (.inr hz)))
   have d1:(x,v)∈cl (v::a::(N1++[x])):=by rw [hc1];exact .tail _ (List.mem_append.2 (.inr (.head _)))
   have d2:(v,x)∈cl (v::x::(N2++[b])):=by rw [hc2];exact .head _
   have off2:∀ z∈v::a::(N1++[x]),z∉v::x::(N2++[b])→∀ e∈cl (v::x::(N2++[b])),offS 1 z e:=fun z hz hz2 e he=>by
    have hm:=cl_mem he
    have z1:z≠e.1:=fun g=>hz2 (by rw [g];exact hm.1)
    have z2:z≠e.2:=fun g=>hz2 (by rw [g];exact hm.2)
    by_cases hd:e=(v,x)
    ·have:=off_of h1 hz d1 (by rw [hd] at z2;exact z2) (by rw [hd] at z1;exact z1)
     rw [hd]
     exact fun ⟨M,hM,ho⟩=>this ⟨M,hM,onW_rev ho⟩
    ·refine off_of hR ?_ (in2 e he hd) z1 z2
     simp only [List.mem_cons,List.mem_append,List.not_mem_nil,or_false] at hz ⊢
     rcases hz with hz|hz|hz|hz
     ·exact .inl hz
     ·exact .inr (.inl hz)
     ·exact .inr (.inr (.inl hz))
     ·exact .inr (.inr (.inr (.inl hz)))
   have off1:∀ z∈v::x::(N2++[b]),z∉v::a::(N1++[x])→∀ e∈cl (v::a::(N1++[x])),offS 1 z e:=fun z hz hz2 e he=>by
    have hm:=cl_mem he
    have z1:z≠e.1:=fun g=>hz2 (by rw [g];exact hm.1)
    have z2:z≠e.2:=fun g=>hz2 (by rw [g];exact hm.2)
    by_cases hd:e=(x,v)
    ·have:=off_of h3 hz d2 (by rw [hd] at z2;exact z2) (by rw [hd] at z1;exact z1)
     rw [hd]
     exact fun ⟨M,hM,ho⟩=>this ⟨M,hM,onW_rev ho⟩
    ·refine off_of hR ?_ (in1 e he hd) z1 z2
     simp only [List.mem_cons,List.mem_append,List.not_mem_nil,or_false] at hz ⊢
     rcases hz with hz|hz|hz|hz
     ·exact .inl hz
     ·exact .inr (.inr (.inr (.inl hz)))
     ·exact .inr (.inr (.inr (.inr (.inl hz))))
     ·exact .inr (.inr (.inr (.inr (.inr hz))))
   -- the side is one of a part
   have side:(p,q)∈cl (v::a::(N1++[x]))∧(p,q)≠(x,v)∨(p,q)∈cl (v::x::(N2++[b]))∧(p,q)≠(v,x):=by
    rw [hcl] at hpq'
    rw [hc1,hc2]
    rcases List.mem_cons.1 hpq' with g|g
    ·exact .inl ⟨by rw [g];exact .head _,fun e=>nw.1 (congrArg Prod.snd (g.symm.trans e)).symm⟩
    ·rcases List.mem_append.1 g with g|g
     ·rcases List.mem_append.1 g with g|g
      ·refine .inl ⟨.tail _ (List.mem_append.2 (.inl g)),fun e=>?_⟩
       have:=(pe_mem g).2
       rw [show q=v from congrArg Prod.snd e] at this
       simp only [List.mem_cons,List.mem_append,List.not_mem_nil,or_false] at this
       rcases this with h|h|h
       ·exact nw.1 h
       ·exact nw.2.1 h
       ·exact nw.2.2.1 h
      ·refine .inr ⟨.tail _ (List.mem_append.2 (.inl g)),fun e=>?_⟩
       have:=(pe_mem g).1
       rw [show p=v from congrArg Prod.fst e] at this
       simp only [List.mem_cons,List.mem_append,List.not_mem_nil,or_false] at this
       rcases this with h|h|h
       ·exact nw.2.2.1 h
       ·exact nw.2.2.2.1 h
       ·exact nw.2.2.2.2 h
     ·have g:(p,q)=(b,v):=by simpa using g
      exact .inr ⟨by rw [g];exact .tail _ (List.mem_append.2 (.inr (.head _))),fun e=>nw.2.2.2.2 (congrArg Prod.fst (e.symm.trans g))⟩
   rcases side with ⟨hs,hne⟩|⟨hs,hne⟩
   ·obtain⟨b',r,a',he,r1,r2⟩:=ih _ (by simp;omega) _ rfl h3 h4 v x d2
    have hr2:=(cl_mem he.s1).2
    have hr1:=only2 r hr2 r1 r2
    have hpm:=cl_mem hs
    refine⟨b',r,a',back ⟨in2 _ he.s1 fun g=>r2 (congrArg Prod.snd g),in2 _ he.s2 fun g=>r1 (congrArg Prod.fst g),he.pos,fun z hz g1 g2 g3=>?_⟩,fun g=>hr1 (by rw [g];exact hpm.1),fun g=>hr1 (by rw [g];exact hpm.2)⟩
    by_cases hz2:z∈v::x::(N2++[b])
    ·exact he.no z hz2 g1 g2 g3
    ·have hz1:=(all z hz).resolve_right hz2
     exact ear_part hR haR h1 h2 h3 h4 hsum he hz1 hz2 (off2 z hz1 hz2)
   ·obtain⟨b',r,a',he,r1,r2⟩:=ih _ (by simp;omega) _ rfl h1 h2 x v d1
    have hr1:=(cl_mem he.s1).2
    have hr2:=only1 r hr1 r2 r1
    have hpm:=cl_mem hs
    refine⟨b',r,a',back ⟨in1 _ he.s1 fun g=>r2 (congrArg Prod.snd g),in1 _ he.s2 fun g=>r1 (congrArg Prod.fst g),he.pos,fun z hz g1 g2 g3=>?_⟩,fun g=>hr2 (by rw [g];exact hpm.1),fun g=>hr2 (by rw [g];exact hpm.2)⟩
    by_cases hz1:z∈v::a::(N1++[x])
    ·exact he.no z hz1 g1 g2 g3
    ·have hz2:=(all z hz).resolve_left hz1
     exact ear_part hR haR h3 h4 h1 h2 hsum2 he hz2 hz1 (off1 z hz2 hz1)
end Go.Aw
end
