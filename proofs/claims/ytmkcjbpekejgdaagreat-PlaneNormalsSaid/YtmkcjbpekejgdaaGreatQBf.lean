/-
  PlaneNormals: Normal returns what the reference returns; it is the normal form of itself, of the list turned and of the list reversed No condition.
-/
import Derived.Test.YtmkcjbpekejgdaaGreatQAs
import Derived.Test.YtmkcjbpekejgdaaGreatQAv
import Derived.Test.YtmkcjbpekejgdaaGreatQBa
import Derived.Test.YtmkcjbpekejgdaaGreatQBe
import Derived.Test.YtmkcjbpekejgdaaGreatRows
import Derived.ProofKit
import Derived.Lib.SmallJoins
import Derived.Deep.Slices
import Derived.Deep.Fields
set_option linter.unusedSimpArgs false
set_option linter.unusedVariables false
noncomputable section
namespace Go.Aw
def clo_normal:Clo:=⟨22,some (4,2,[iv 4,iv 4,iv 4,iv 2,iv 4,iv 0,iv 0,iv 0]),[],.tuple #[.slice (some ⟨0,0,none⟩) 3 3,iv 0],[(0,.cells true false 2 [iv 0,iv 0,iv 4,iv 0,iv 4,iv 4])],1,[(0,83)]⟩
theorem clo_normal_ok:CloOK cfg0 40 clo_normal:=⟨by decide +kernel,by decide +kernel⟩
def clo_triangles:Clo:=⟨25,some (4,2,[iv 0,iv 0,iv 4,iv 0,iv 4,iv 4,iv 0,iv 4]),[],.tuple #[.slice (some ⟨0,0,none⟩) 2 2,iv 0],[(0,.cells true false 6 [iv 0,iv 4,iv 0,iv 0,iv 4,iv 0,iv 4,iv 0,iv 4,iv 4,iv 0,iv 4])],1,[(0,102)]⟩
theorem clo_triangles_ok:CloOK cfg0 40 clo_triangles:=⟨by decide +kernel,by decide +kernel⟩
def clo_hull:Clo:=⟨33,some (4,2,[iv 0,iv 0,iv 2,iv 0,iv 4,iv 0,iv 2,iv 1]),[],.tuple #[.slice (some ⟨0,0,none⟩) 3 3,iv 0],[(0,.cells true false 2 [iv 0,iv 0,iv 4,iv 0,iv 2,iv 1])],1,[(0,35)]⟩
theorem clo_hull_ok:CloOK cfg0 40 clo_hull:=⟨by decide +kernel,by decide +kernel⟩
def clo_split:Clo:=⟨39,some (2,4,[iv 0,iv 0,iv 4,iv 0,iv 2,iv 0,iv 2,iv 3]),[],.tuple #[.slice (some ⟨0,0,none⟩) 3 3,iv 0],[(0,.cells true false 4 [iv 0,iv 0,iv 2,iv 0,iv 2,iv 0,iv 2,iv 3,iv 2,iv 0,iv 4,iv 0])],1,[(0,116)]⟩
theorem clo_split_ok:CloOK cfg0 40 clo_split:=⟨by decide +kernel,by decide +kernel⟩
def clo_sweep:Clo:=⟨46,some (2,4,[iv 0,iv 0,iv 4,iv 0,iv 1,iv 2,iv 3,iv 1]),[],.tuple #[.slice (some ⟨0,0,none⟩) 3 3,iv 0],[(0,.cells false false 3 [iv 0,iv 1,.slice (some ⟨1,0,none⟩) 1 1,iv 1,iv 3,.slice (some ⟨2,0,none⟩) 2 2,iv 3,iv 4,.slice (some ⟨3,0,none⟩) 1 1]),(1,.cells false false 1 [iv 0]),(2,.cells false false 1 [iv 0,iv 1]),(3,.cells false false 1 [iv 0])],4,[(0,105),(1,31),(2,69),(3,90)]⟩
theorem clo_sweep_ok:CloOK cfg0 40 clo_sweep:=⟨by decide +kernel,by decide +kernel⟩
def clo_cross:Clo:=⟨53,none,[sg 0 0 3 1,sg 0 1 1 0],.tuple #[.agg #[iv 3,iv 4],.agg #[iv 1,iv 4],.bool true],[],0,[]⟩
theorem clo_cross_ok:CloOK cfg0 40 clo_cross:=⟨by decide +kernel,by decide +kernel⟩
def clo_where1:Clo:=⟨29,some (4,2,[iv 0,iv 0,iv 4,iv 0,iv 4,iv 4,iv 0,iv 4]),[pt 4 1],.int .u8 1,[],0,[]⟩
theorem clo_where1_ok:CloOK cfg0 40 clo_where1:=⟨by decide +kernel,by decide +kernel⟩
def clo_where2:Clo:=⟨29,some (4,2,[iv 0,iv 0,iv 4,iv 0,iv 4,iv 4,iv 0,iv 4]),[pt 2 2],.int .u8 2,[],0,[]⟩
theorem clo_where2_ok:CloOK cfg0 40 clo_where2:=⟨by decide +kernel,by decide +kernel⟩
def clos:List Clo:=[clo_normal,clo_triangles,clo_hull,clo_split,clo_sweep,clo_cross,clo_where1,clo_where2]
theorem clos_ok:∀ E∈clos,CloOK cfg0 40 E:=by
 intro E hE
 simp only [clos,List.mem_cons,List.not_mem_nil,or_false] at hE
 rcases hE with rfl|rfl|rfl|rfl|rfl|rfl|rfl|rfl
 ·exact clo_normal_ok
 ·exact clo_triangles_ok
 ·exact clo_hull_ok
 ·exact clo_split_ok
 ·exact clo_sweep_ok
 ·exact clo_cross_ok
 ·exact clo_where1_ok
 ·exact clo_where2_ok
def cfg1:Cfg:={ A:=fastA,T:=tyT,FT:=look ftL,PL:=plF,PR:=fun _=>false,X:=cloX clos,M:=1000 }
theorem cfg1_ok:CfgOK Go.Proofs.Tryz.prog cfg1:=cfg_ok _ (cloXOK cfg0_ok rfl clos_ok) _ _
theorem alive_B:wcall cfg1 (cloXB clos) 40 false 15 [] [] 0 (fun v _ _=>sameT v (.bool true))=true:=by decide +kernel
end Go.Aw
end

noncomputable section
namespace Go.Aw
theorem x19:XOK Go.Proofs.Tryz.prog X19.1 X19.2 :=
 gX_ok (vcall_ok cfg1_ok 40).1 fun args v hs=>by
  have:args=[]∧v=.bool true:=by
   unfold s0 at hs
   split at hs
   ·injection hs with hs;injection hs with _ h2;exact⟨rfl,h2.symm⟩
   ·cases hs
  obtain⟨rfl,rfl⟩:=this
  exact⟨rfl,rfl,wcall_tw (cloTwX rfl) 40 false 15 [] [] 0 _ (fun u _ _=>u=.bool true) (fun u h nx e=>sameT_eq e) alive_B⟩
end Go.Aw
namespace Go.Proofs.YtmkcjbpekejgdaaGreat
open Go.ChangeShapes Go.WideShapes Go.ChangeAt Go.RowKit Go.Aw Go.Joins
theorem Tryz.own:ownKnob Tryz.prog.godebug=none:=by kernel_rfl
theorem Tryz.laidOut:laidOutB Tryz.prog=true:=by kernel_rfl
theorem Tryz.cells32:Tryz.prog.cellsOf 32=2:=by kernel_rfl
theorem shutBool {H:Type}{enc:TypeId × Value→H}{W:World}{base:Nat}{sp:Nat→Bool}{held:Bool}(b:Bool):DataW.Trod enc Tryz.prog W base sp held 4 (.bool b) (.lit (.bool b)) []:=⟨1,by simp [DataW.trod,Value.cells,Tryz.underlying4]⟩
theorem Tryz.cells3:Tryz.prog.cellsOf 3=1:=by kernel_rfl
section
variable {H:Type}{enc:TypeId × Value→H}{w:World}{base:Nat}{spare:Nat→Bool}{held:Bool}
theorem len2 {α:Type}{l:List α}(h:l.length=2):∃ a b,l=[a,b]:=by
 match l,h with
 |[a,b],_=>exact⟨a,b,rfl⟩
theorem pt_cells {fuel:Nat}{cs:List Value}{x:DataW H × List MemPlace}(h:DataW.trod enc Tryz.prog w base spare held fuel 32 cs=some x):∃ a b:Int,cs=[.int .i64 a,.int .i64 b]:=by
 obtain⟨xs,n,_,_,hlen,hxl,hf⟩:=DataW.trod_struct Tryz.underlying32 h
 rw [Tryz.cells32] at hlen
 obtain⟨c0,c1,rfl⟩:=len2 hlen
 obtain⟨x0,x1,rfl⟩:=len2 hxl
 have h0:DataW.trod enc Tryz.prog w base spare held n 3 [c0]=some x0:=by simpa [Tryz.cells3] using hf 0 _ rfl
 have h1:DataW.trod enc Tryz.prog w base spare held n 3 [c1]=some x1:=by simpa [Tryz.cells3] using hf 1 _ rfl
 obtain⟨a,ea,_⟩:=DataW.trod_int Tryz.underlying3 h0
 obtain⟨b,eb,_⟩:=DataW.trod_int Tryz.underlying3 h1
 simp at ea eb
 exact⟨a,b,by rw [ea,eb]⟩
end
end Go.Proofs.YtmkcjbpekejgdaaGreat
end

noncomputable section
namespace Go.Aw
set_option maxRecDepth 100000
def othI (l:List (Int × Int))(F:Nat)(back:Bool):List (Int × Int):=turnI (if back=true then l.reverse else l) (F % l.length)
theorem othI_len {l:List (Int × Int)}(h:0<l.length)(F:Nat)(back:Bool):(othI l F back).length=l.length:=by
 have hm:=Nat.mod_lt F h
 unfold othI
 split
 ·rw [turnI_len _ _ (by simp;omega),List.length_reverse]
 ·rw [turnI_len _ _ (by omega)]
theorem othI_at {l:List (Int × Int)}(h:0<l.length)(F:Nat){i:Nat}(hi:i<l.length)(back:Bool):at2 (othI l F back) i=at2 l (if back=true then l.length - 1 - (i+F) % l.length else (i+F) % l.length):=by
 have hm:=Nat.mod_lt F h
 have hm2:=Nat.mod_lt (i+F) h
 have e:(F % l.length+i) % l.length=(i+F) % l.length:=by rw [Nat.mod_add_mod,Nat.add_comm]
 unfold othI
 cases back with
 |false =>
  simp only [Bool.false_eq_true,if_false]
  rw [turnI_at hm hi]
  unfold cyc
  rw [e]
 |true =>
  simp only [if_true]
  rw [turnI_at (by simp;exact hm) (by simp;exact hi)]
  unfold cyc
  rw [List.length_reverse,e,at2_eq (by simp;exact hm2),at2_eq (by omega),List.getElem_reverse]
theorem take_at {L:List (Int × Int)}{i:Nat}(h:i<L.length):L.take (i+1)=L.take i++[at2 L i]:=by
 rw [List.take_succ_eq_append_getElem h,at2_eq h]
def eN (n c:Nat)(f:Int)(back:Bool)(m:Nat)(v:Value)(j:Int):List (Nat × Value):=[(0,.slice (some ⟨0,0,none⟩) n c),(1,u8 f),(2,.bool back),(7,.slice (some ⟨1,0,none⟩) m m),(11,v),(45,iv n),(46,iv j)]
def hN (l O:List (Int × Int)):Heap:=[(0,.cells false true 2 (flat elP.fl l)),(1,.cells true false 2 (flat elP.fl O))]
def hN2 (l O L:List (Int × Int)):Heap:=[(0,.cells false true 2 (flat elP.fl l)),(1,.cells true false 2 (flat elP.fl O)),(2,.cells true false 2 (flat elP.fl L))]
attribute [local irreducible] norO polyE samePB norR at2 in
theorem law4 (l:List (Int × Int))(f:Int)(hf0:0≤f)(hf1:f<256)(back:Bool)(c:Nat):body [X19,X49,X50,X48] 4 [.slice (some ⟨0,0,none⟩) l.length c,u8 f,.bool back] [(0,.cells false true 2 (flat elP.fl l))] 1 (fun u _ _=>u=.bool true):=by
 have hs:∀ O,samePB O O=true:=fun O=>by unfold samePB;exact decide_eq_true rfl
 ((conv=>whnf);refine bm (fun g1=>?_) (fun g1=>?_))
 ·(conv=>whnf)
 ·have hlen:l.length≤40:=by simp only [cA_lt,cA_num,decide_eq_false_iff_not] at g1;omega
  have hd1:decide (l.length≤1000000000)=true:=decide_eq_true (by omega)
  by_cases he:polyE l=0
  ·have hO':norO l=norR l:=by unfold norO;rw [if_pos he]
   obtain⟨hg,hsim⟩:=polyE_ok he
   have hpos:=norR_pos hg hsim
   have hlb:=norR_len l
   obtain⟨O,hO⟩:∃ O,norO l=O:=⟨_,rfl⟩
   rw [← hO',hO] at hpos hlb
   rcases O with _|⟨a,t⟩
   ·simp at hpos
   ·(conv=>whnf)
    refine Exists.intro l (And.intro (LsAt_own elP rfl) ?_)
    repeat' first
     |(exfalso
       simp only [hd1,Bool.and_true] at g
       cases g
       done)
     |(((conv=>whnf);refine bm (fun g=>?_) (fun g=>?_)))
     |((conv=>whnf)
       rw [hO])
     |((conv=>whnf)
       refine Exists.intro l (And.intro (LsAt_own elP rfl) ?_))
     |((conv=>whnf)
       refine Exists.intro (a::t) (Exists.intro (a::t) (And.intro (LsAt_n elP rfl rfl) (And.intro (LsAt_n elP rfl rfl) ?_))))
    all_goals (conv=>whnf)
    all_goals first
     |(exfalso;simp [cA_eq,cA_eqB,cA_notB,hs,he] at g;done)
     |(exfalso;simp only [decide_eq_false_iff_not] at g;omega)
     |skip
    have hO2:norR l=a::t:=hO'.symm.trans hO
    have h3:=hg.1
    have hr:=hg.2.2.1
    generalize hOO:a::t=O at hO hpos hlb hO2 ⊢
    have hol:=othI_len (show 0<l.length by omega) f.toNat back
    have hoa:=fun (i:Nat) (hi:i<l.length)=>othI_at (show 0<l.length by omega) f.toNat hi back
    have hob:=norR_other hg hsim (j:=f.toNat % l.length) (Nat.mod_lt _ (by omega)) back
    have hob:polyE (othI l f.toNat back)=0∧norR (othI l f.toNat back)=O:=by rw [← hO2];exact hob
    generalize othI l f.toNat back=L at hol hoa hob
    refine⟨fun n e h nx=>∃ (i:Nat) (j:Int),j=i∧i≤l.length∧n=l.length - i ∧
     ((i=0∧e=eN l.length c f back O.length (.slice none 0 0) j∧h=hN l O∧nx=2)∨(∃ R,R=L.take i∧0<R.length∧R.length=i∧e=eN l.length c f back O.length (.slice (some ⟨2,0,none⟩) R.length R.length) j∧h=hN2 l O R∧nx=3)),⟨l.length,?_⟩,?_⟩
    ·refine Into_id (e0:=eN l.length c f back O.length (.slice none 0 0) 0) (h0:=hN l O) (n0:=2) ⟨0,0,rfl,Nat.zero_le _,rfl,.inl ⟨rfl,rfl,rfl,rfl⟩⟩ ?_ ?_ (by decide)
     ·unfold eN
      ((repeat' refine iE rfl rfl ?_);exact iN)
     ·unfold hN
      ((repeat'(first|refine iF rfl rfl ?_|refine iJ rfl rfl rfl rfl ?_));exact iN)
    ·rintro n e h nx ⟨i,j,hj,hi,rfl,hor2⟩
     have hq:(i+f.toNat) % l.length<l.length:=Nat.mod_lt _ (by omega)
     have hq2:l.length - 1 - (i+f.toNat) % l.length<l.length:=by omega
     have hf3:((f.toNat:Nat):Int)=f:=Int.toNat_of_nonneg hf0
     have tc:(j+f).tmod (l.length:Int)=((i+f.toNat) % l.length:Nat):=by rw [hj,← hf3];exact (Int.ofNat_tmod _ _).symm
     rcases hor2 with ⟨hi0,rfl,rfl,rfl⟩|⟨R,hR,hR0,hRi,rfl,rfl,rfl⟩
     ·unfold eN hN
      ((conv=>whnf);refine bm (fun g1=>?_) (fun g1=>?_))
      ·have hlt:i<l.length:=by simp only [cA_lt,cA_num,decide_eq_true_eq] at g1;omega
       cases back
       all_goals repeat' first
        |(exfalso
          have hx:Nat.ble (0+1) 0=true:=g
          have:=Nat.le_of_ble_eq_true hx
          omega)
        |(((conv=>whnf);refine bm (fun g=>?_) (fun g=>?_)))
        |((conv=>whnf)
          refine boL (getP l hq ?_) ?_
          ·show 0+((j+f).tmod (l.length:Int)).toNat*2=_
           rw [tc,Int.toNat_natCast,Nat.zero_add])
        |((conv=>whnf)
          refine boL (getP l hq2 ?_) ?_
          ·show 0+((l.length:Int) - 1 - (j+f).tmod (l.length:Int)).toNat*2=_
           rw [tc,Nat.zero_add]
           congr 1
           omega)
       all_goals (conv=>whnf)
       all_goals first
        |(exfalso
          simp only [cA_rem,cA_add,cA_sub,cA_fits,cA_lt,cA_le,cA_andB,cA_num,cA_eq,cA_notB,fitsK,Bool.and_eq_false_iff,Bool.not_eq_false',decide_eq_true_eq,decide_eq_false_iff_not,tc] at g
          omega)
        |(refine⟨l.length - (i+1),by omega,?_⟩
          have hoi:=hoa i hlt
          have htk:L.take (i+1)=[at2 L i]:=by
           rw [take_at (by omega),hi0,List.take_zero]
           rfl
          rw [hoi] at htk
          simp only [if_true,if_false,Bool.false_eq_true] at htk
          refine Into_mv (e0:=eN l.length c f _ O.length (.slice (some ⟨2,0,none⟩) 1 1) (j+1)) (h0:=hN2 l O [at2 l _]) (n0:=3) 2 3 (by decide) (by decide)
           ⟨i+1,j+1,by omega,by omega,rfl,.inr ⟨_,htk.symm,Nat.one_pos,by rw [hi0];rfl,rfl,rfl,rfl⟩⟩ ?_ ?_ ?_
          ·unfold eN
           ((repeat' refine iE rfl rfl ?_);exact iN)
          ·unfold hN2
           ((repeat'(first|refine iF rfl rfl ?_|refine iJ rfl rfl rfl rfl ?_));exact iN)
          ·unfold hN2
           ((repeat' refine iK rfl ?_);exact iN))
        |trace_state
      ·exfalso
       simp only [cA_lt,cA_num,decide_eq_false_iff_not] at g1
       omega
     ·unfold eN hN2
      ((conv=>whnf);refine bm (fun g1=>?_) (fun g1=>?_))
      ·have hlt:i<l.length:=by simp only [cA_lt,cA_num,decide_eq_true_eq] at g1;omega
       cases back
       all_goals repeat' first
        |(exfalso
          have hx:Nat.ble (R.length+1) R.length=true:=g
          have:=Nat.le_of_ble_eq_true hx
          omega)
        |(((conv=>whnf);refine bm (fun g=>?_) (fun g=>?_)))
        |((conv=>whnf)
          refine boL (getP l hq ?_) ?_
          ·show 0+((j+f).tmod (l.length:Int)).toNat*2=_
           rw [tc,Int.toNat_natCast,Nat.zero_add])
        |((conv=>whnf)
          refine boL (getP l hq2 ?_) ?_
          ·show 0+((l.length:Int) - 1 - (j+f).tmod (l.length:Int)).toNat*2=_
           rw [tc,Nat.zero_add]
           congr 1
           omega)
       all_goals (conv=>whnf)
       all_goals first
        |(exfalso
          simp only [cA_rem,cA_add,cA_sub,cA_fits,cA_lt,cA_le,cA_andB,cA_num,cA_eq,cA_notB,fitsK,Bool.and_eq_false_iff,Bool.not_eq_false',decide_eq_true_eq,decide_eq_false_iff_not,tc] at g
          omega)
        |(refine⟨l.length - (i+1),by omega,?_⟩
          have hoi:=hoa i hlt
          have htk:L.take (i+1)=R++[at2 L i]:=by rw [take_at (by omega),hR]
          rw [hoi] at htk
          simp only [if_true,if_false,Bool.false_eq_true] at htk
          refine Into_mv (e0:=eN l.length c f _ O.length (.slice (some ⟨2,0,none⟩) (R.length+1) (R.length+1)) (j+1)) (h0:=hN2 l O (R++[at2 l _])) (n0:=3) 2 4 (by decide) (by decide)
           ⟨i+1,j+1,by omega,by omega,rfl,.inr ⟨_,htk.symm,by rw [List.length_append];exact Nat.succ_pos _,by rw [List.length_append,hRi];rfl,by rw [List.length_append];rfl,rfl,rfl⟩⟩ ?_ ?_ ?_
          ·unfold eN
           ((repeat' refine iE rfl rfl ?_);exact iN)
          ·unfold hN2
           ((repeat'(first|refine iW rfl rfl (ObjRen_j (flat_g elP _) (flat_grow R _)) ?_|refine iF rfl rfl ?_|refine iJ rfl rfl rfl rfl ?_));exact iN)
          ·unfold hN2
           ((repeat' refine iK rfl ?_);exact iN))
        |(exfalso
          have hf:(flat elP.fl R).length=R.length*2:=by rw [flat_len];rfl
          simp only [cA_andB,hf] at g
          revert g
          simp
          omega)
        |trace_state
      ·have hge:i=l.length:=by simp only [cA_lt,cA_num,decide_eq_false_iff_not] at g1;omega
       subst hge
       rw [List.take_of_length_le (by omega)] at hR
       subst hR
       have hE:polyE R=0:=hob.1
       have hNR:norO R=O:=by unfold norO;rw [if_pos hE];exact hob.2
       have hgo:=norR_good hg hsim
       rw [hO2] at hgo
       have hEO:polyE O=0:=polyE_yes hgo.1 hgo.2
       have hNO:norO O=O:=by
        unfold norO
        rw [if_pos hEO,← hO2]
        exact norR_again hg hsim
       have hd2:decide (R.length≤1000000000)=true:=decide_eq_true (by omega)
       have hd3:decide (O.length≤1000000000)=true:=decide_eq_true (by omega)
       rcases O with _|⟨a',t'⟩
       ·simp at hpos
       repeat' first
        |(exfalso
          simp only [hd1,hd2,hd3,Bool.and_true] at g
          cases g
          done)
        |(exfalso;simp [cA_eq,cA_eqB,cA_notB,hs,hE,hEO] at g;done)
        |(((conv=>whnf);refine bm (fun g=>?_) (fun g=>?_)))
        |((conv=>whnf)
          refine Exists.intro R (And.intro (LsAt_n elP rfl rfl) ?_))
        |((conv=>whnf)
          refine Exists.intro (a'::t') (And.intro (LsAt_n elP rfl rfl) ?_))
        |((conv=>whnf)
          rw [hNR])
        |((conv=>whnf)
          rw [hNO])
        |((conv=>whnf)
          refine Exists.intro (a'::t') (Exists.intro (a'::t') (And.intro (LsAt_n elP rfl rfl) (And.intro (LsAt_n elP rfl rfl) ?_))))
       all_goals (conv=>whnf)
       show Value.bool (samePB (a'::t') (a'::t'))=.bool true
       rw [hs]
  ·have hO:norO l=[]:=by unfold norO;rw [if_neg he]
   repeat' first
    |(exfalso
      simp only [hd1,Bool.and_true] at g
      cases g
      done)
    |(((conv=>whnf);refine bm (fun g=>?_) (fun g=>?_)))
    |((conv=>whnf)
      rw [hO])
    |((conv=>whnf)
      refine Exists.intro l (And.intro (LsAt_own elP rfl) ?_))
    |((conv=>whnf)
      refine Exists.intro [] (Exists.intro [] (And.intro ⟨rfl,rfl,rfl⟩ (And.intro ⟨rfl,rfl,rfl⟩ ?_))))
   all_goals (conv=>whnf)
   all_goals first
    |(exfalso;simp [cA_eq,cA_eqB,cA_notB,hs,he] at g;done)
    |trace_state
end Go.Aw
end

noncomputable section
namespace Go.Proofs.YtmkcjbpekejgdaaGreat
open Go.ChangeShapes Go.WideShapes Go.ChangeAt Go.RowKit Go.Aw Go.Joins
theorem flat_idx {α:Type}(E:El α)(l:List α)(i j:Nat)(hi:i<l.length)(hj:j<E.sz):(flat E.fl l)[i*E.sz+j]? = (E.fl l[i])[j]? := by
 have h1:=flat_at E l i hi
 rw [← h1,List.getElem?_take_of_lt hj,List.getElem?_drop]
theorem law_calls_l {α:Type}(E:El α){f:Nat}{xl:List (Nat × XF)}(hx:XLOK xl){l:List α}{r:List Value}{c:Nat}(hr:allGA r=true)
  (hb:body xl f (.slice (some ⟨0,0,none⟩) l.length c::r) [(0,.cells false true E.sz (flat E.fl l))] 1 (fun u _ _=>u=.bool true)) {W:World} {v:Value} {loc:Go.Aw.Loc}
  (hv:v=tr (fun _=>loc) (.slice (some ⟨0,0,none⟩) l.length c)) (hn:loc.isAt=false→l.length=0∧c=0) (ho:ORel (fun _=>loc) W.heap.size W (.cells false true E.sz (flat E.fl l)) loc) :
  Calls Tryz.prog f (v::r).toArray W (fun e W'=>e=.returned (.bool true)∧Below W.heap.size W W'):=by
 obtain⟨_,h⟩:=body_calls hx f _ _ 1 _ hb (fun _=>loc) W.heap.size W ⟨fun k o hk=>by
  rw [look_cons] at hk
  split at hk
  ·injection hk with hk;subst hk;exact ho
  ·exact noLook hk,fun k k' o o' hk hk' hne ha=>by
  rw [look_cons] at hk hk'
  split at hk
  ·rename_i hb1
   split at hk'
   ·rename_i hb2;exact absurd ((beq_true hb1).symm.trans (beq_true hb2)) hne
   ·exact noLook hk'
  ·exact noLook hk,fun k o hk=>by
  rw [look_cons] at hk
  split at hk
  ·rename_i hb;rw [← beq_true hb];exact Nat.one_pos
  ·exact noLook hk,Nat.le_refl _,fun k o hk=>by
  rw [look_cons] at hk
  split at hk
  ·injection hk with hk;subst hk;exact fun v hv=>scS_g (allG_mem (flat_g E l) hv)
  ·exact noLook hk⟩ (fun u hu=>by
  cases hu with
  |head=>exact⟨Nat.one_pos,hn⟩
  |tail _ hm=>exact scT_g (allGA_mem hr hm))
 have he:((Value.slice (some ⟨0,0,none⟩) l.length c::r).map (tr (fun _=>loc))).toArray=(v::r).toArray:=by
  congr 1
  rw [List.map_cons,← hv]
  congr 1
  conv=>rhs;rw [← List.map_id r]
  exact List.map_congr_left fun v hv=>tr_g (allGA_mem hr hv)
 rw [he] at h
 refine callsIn_wide.1 (CallsIn.mono h fun e W' hr=>?_)
 cases e with
 |returned u =>
  obtain⟨v,h',nx',ι',rfl,_,_,hb2,_,_,rfl⟩:=hr
  exact⟨rfl,hb2.kit⟩
 |_=>exact hr.elim
section
variable {H:Type}{enc:TypeId × Value→H}{W:World}{held:Bool}
set_option maxRecDepth 100000 in
theorem open_list {α:Type}(E:El α)(hsz:0<E.sz){t e:TypeId}(ht:Tryz.prog.underlying t=some (.slice e))(hC:Tryz.prog.cellsOf e=E.sz)
  (hcells:∀ {fuel:Nat} {cs:List Value} {x:DataW H × List MemPlace},DataW.trod enc Tryz.prog W 0 (fun _=>true) held fuel e cs=some x→∃ a,cs=E.fl a)
  {a0:Option Addr} {n0 c0:Nat} {d:DataW H} {p:List MemPlace} (h:DataW.Trod enc Tryz.prog W 0 (fun _=>true) held t (.slice a0 n0 c0) d p) :
  ∃ (l:List α) (c:Nat) (loc:Go.Aw.Loc),.slice a0 n0 c0=tr (fun _=>loc) (.slice (some ⟨0,0,none⟩) l.length c)∧(loc.isAt=false→l.length=0∧c=0)∧ORel (fun _=>loc) W.heap.size W (.cells false true E.sz (flat E.fl l)) loc:=by
 obtain⟨fuel,hf⟩:=h
 rcases Go.Deep.open_slice ht hf with ⟨hcs,_⟩|⟨a,len,cap,m,n,D,Pl,hcs,_,hl,_,hm,_,hi⟩
 ·simp [Value.cells] at hcs
  obtain⟨rfl,rfl,rfl⟩:=hcs
  exact⟨[],0,.nil none,rfl,fun _=>⟨rfl,rfl⟩,rfl,fun h=>h.elim (fun h=>absurd h E.pos) (fun h=>by cases h)⟩
 ·simp [Value.cells] at hcs
  obtain⟨rfl,rfl,rfl⟩:=hcs
  simp only [if_true] at hm
  rw [hC,hm] at hi
  by_cases h0:c0=0
  ·subst h0
   have:n0=0:=by omega
   subst this
   exact⟨[],0,.nil (some a),rfl,fun _=>⟨rfl,rfl⟩,rfl,fun h=>h.elim (fun h=>absurd h E.pos) (fun h=>by cases h)⟩
  ·have hp:∀ i,i<c0→∃ q:α,∀ j,j<E.sz→W.cell? ((a.add (i*E.sz)).add j)=(E.fl q)[j]? := by
    intro i him
    obtain⟨cs',hc,ht'⟩:=hi i him
    obtain⟨q,rfl⟩:=hcells ht'
    obtain⟨_,_,hat⟩:=World.cells?_some hc
    exact⟨q,hat⟩
   obtain⟨q0,hq0⟩:=hp 0 (by omega)
   have hall:∀ i,∃ q:α,i<c0→∀ j,j<E.sz→W.cell? ((a.add (i*E.sz)).add j)=(E.fl q)[j]? := fun i=>by
    by_cases him:i<c0
    ·obtain⟨q,hq⟩:=hp i him
     exact⟨q,fun _=>hq⟩
    ·exact⟨q0,fun h=>absurd h him⟩
   obtain⟨F,hF⟩:=Classical.axiomOfChoice hall
   have hsome:∃ u,W.cell? a=some u:=by
    have:=hq0 0 hsz
    simp only [Nat.zero_mul,Addr.add,if_true] at this
    have hlen:=E.len q0
    rw [this,List.getElem?_eq_getElem (by omega)]
    exact⟨_,rfl⟩
   obtain⟨u0,hu0⟩:=hsome
   obtain⟨b,off,spot⟩:=a
   have hspot:spot=none:=World.cell?_spot hu0
   subst hspot
   have hbW:b<W.heap.size:=by
    unfold World.cell? at hu0
    cases hb:W.heap[b]? with
    |none=>simp [hb] at hu0
    |some o=>exact (Array.getElem?_eq_some_iff.1 hb).1
   refine⟨(List.range n0).map F,c0,.lay b off 0,?_,(fun h=>by cases h),hbW,fun _=>flat_g E _,fun i v hv=>?_⟩
   ·simp [tr,trA,trS,trP]
   ·have hlt:=(List.getElem?_eq_some_iff.1 hv).1
    rw [flat_len] at hlt
    have hi1:i / E.sz<((List.range n0).map F).length:=Nat.div_lt_of_lt_mul (by rw [Nat.mul_comm];exact hlt)
    have hj1:i % E.sz<E.sz:=Nat.mod_lt _ hsz
    have hdm:i / E.sz*E.sz+i % E.sz=i:=Nat.div_add_mod' _ _
    have hfi:=flat_idx E ((List.range n0).map F) (i / E.sz) (i % E.sz) hi1 hj1
    rw [hdm,hv] at hfi
    simp only [List.length_map,List.length_range] at hi1
    rw [show ((List.range n0).map F)[i / E.sz]=F (i / E.sz) by simp] at hfi
    have:=hF (i / E.sz) (by omega) (i % E.sz) hj1
    rw [← hfi] at this
    rw [trS_g (allG_mem (E.gr _) (List.mem_of_getElem? hfi.symm)),← this]
    congr 1
    rw [Addr.add_lit,Addr.add_lit]
    simp only [Addr.mk.injEq,and_true,true_and]
    omega
end
end Go.Proofs.YtmkcjbpekejgdaaGreat
end

noncomputable section
namespace Go.Proofs.YtmkcjbpekejgdaaGreat
open Go.ChangeShapes Go.WideShapes Go.ChangeAt Go.RowKit Go.Aw Go.Joins
theorem Tryz.und5:Tryz.prog.underlying 5=some (.int .u8):=by kernel_rfl
theorem Tryz.und4:Tryz.prog.underlying 4=some .bool:=by kernel_rfl
set_option maxRecDepth 100000 in
theorem okWide_u8 {w:World}{r:Reach}{base:Nat}{v:Value}(h:Value.okWide Tryz.prog w r base 5 v):∃ n:Int,v=u8 n∧0≤n∧n<256:=by
 obtain⟨n,rfl⟩:=okWide_int Tryz.und5 h
 simp only [Value.okWide,Tryz.und5,Cell.okWide,Cell.ok,IntKind.has] at h
 refine⟨n,rfl,?_⟩
 simp [IntKind.min,IntKind.max,IntKind.signed,IntKind.bits] at h
 omega
section
variable {H:Type}{enc:TypeId × Value→H}{P:Program}{w:World}{base:Nat}{spare:Nat→Bool}{held:Bool}
theorem trod_3 {t0 t1 t2:TypeId}{args:Array Value}{ds:List (DataW H)}{ps:List MemPlace}(h:DataW.TrodAll enc P w base spare held [t0,t1,t2] args.toList ds ps) :
  ∃ v0 v1 v2 d0 d1 d2 p0 p1 p2,args=#[v0,v1,v2]∧ds=[d0,d1,d2]∧ps=p0++(p1++p2)∧DataW.Trod enc P w base spare held t0 v0 d0 p0∧DataW.Trod enc P w base spare held t1 v1 d1 p1 ∧
    DataW.Trod enc P w base spare held t2 v2 d2 p2:=by
 obtain⟨v0,x0,d0,y0,p0,q0,e0,rfl,rfl,h0,r0⟩:=trodAll_cons h
 obtain⟨v1,x1,d1,y1,p1,q1,rfl,rfl,rfl,h1,r1⟩:=trodAll_cons r0
 obtain⟨v2,x2,d2,y2,p2,q2,rfl,rfl,rfl,h2,r2⟩:=trodAll_cons r1
 obtain⟨rfl,rfl,rfl⟩:=trodAll_nil r2
 exact⟨v0,v1,v2,d0,d1,d2,p0,p1,p2,Array.ext' e0,rfl,by simp,h0,h1,h2⟩
end
theorem pt_el {H:Type}{enc:TypeId × Value→H}{W:World}{held:Bool}{fuel:Nat}{cs:List Value}{x:DataW H × List MemPlace}(h:DataW.trod enc Tryz.prog W 0 (fun _=>true) held fuel 32 cs=some x):∃ a,cs=elP.fl a:=by
 obtain⟨a,b,e⟩:=pt_cells h
 exact⟨(a,b),e⟩
set_option maxRecDepth 100000 in
theorem normals_lifted (os:Os)(started:os.Started)(H:Type)(enc:TypeId × Value→H) :
  ReturnsInHanded {} Tryz.checked os 4 .any (Rows.planeNormalsSpec.pre6 enc Tryz.prog Tryz.f4 Rows.planeNormalsRow.domain false) (Rows.planeNormalsSpec.post enc Tryz.prog Tryz.f4 false true false false):=by
 refine returnsInHanded_of_change (C:=Tryz.checked) Tryz.own started (by kernel_rfl) Tryz.func4
  (ChangeSpec.witness6 (enc:=enc) (C:=Tryz.checked) false ⟨#[],#[.slice none 0 0,.int .u8 0,.bool false],[]⟩ 8 (by kernel_rfl) (by kernel_rfl) (by kernel_rfl) (by kernel_rfl)) ?_
 intro W base args ds gs before hval0 hW hcnd _
 have hval:∀ (j:Nat) t v,Tryz.f4.params[j]? = some t→args[j]? = some v→Value.okWide Tryz.prog W .any base t v:=hval0
 have hW':=hW
 obtain⟨p,q,hA0,hV,rfl,hfz,hnd⟩:=hW
 have hA:DataW.TrodAll enc Tryz.prog W 0 (fun _=>true) true Tryz.f4.params.toList args.toList ds p:=hA0
 rw [Tryz.params4] at hA hval
 obtain⟨v0,v1,v2,d0,d1,d2,p0,p1,p2,rfl,rfl,rfl,h0,h1,h2⟩:=trod_3 hA
 obtain⟨rfl,rfl⟩:=trodVars_none hV
 obtain⟨a0,len,cap,rfl⟩:=okWide_slice Tryz.underlying22 (hval 0 22 v0 rfl rfl)
 obtain⟨l,c,loc,e1,e2,e3⟩:=open_list elP (by decide) Tryz.underlying22 Tryz.cells32 pt_el h0
 obtain⟨n,rfl,hn0,hn1⟩:=okWide_u8 (hval 1 5 v1 rfl rfl)
 obtain⟨b,rfl⟩:=okWide_bool Tryz.und4 (hval 2 4 v2 rfl rfl)
 clear hA0 hval0
 simp only [List.append_nil] at hW'
 have hlt:∀ x∈p0++(p1++p2),x.block<W.heap.size:=fun x hx=>by simpa using hW'.lt x hx
 refine (law_calls_l elP (f:=4) (r:=[u8 n,.bool b]) (.cons x19 (.cons x49 (.cons x50 (.cons x48 .nil)))) rfl (law4 l n hn0 hn1 b c) e1 e2 e3).mono fun e W' ⟨he,hb⟩=>?_
 subst he
 refine⟨_,rfl,_,_,_,[],p0++(p1++p2),[],hW',trodAll_mk1 (shutBool true),?_,rfl,hb.frame _,fun h=>by cases h⟩
 exact trodAll_mk3 (Below.trod Tryz.laidOut (by kernel_rfl) (of_decide_eq_true (by kernel_rfl)) h0 hb (fun x hx=>hlt x (List.mem_append.2 (.inl hx)))) (Below.trod Tryz.laidOut (by kernel_rfl) (of_decide_eq_true (by kernel_rfl)) h1 hb (fun x hx=>hlt x (List.mem_append.2 (.inr (List.mem_append.2 (.inl hx)))))) (Below.trod Tryz.laidOut (by kernel_rfl) (of_decide_eq_true (by kernel_rfl)) h2 hb (fun x hx=>hlt x (List.mem_append.2 (.inr (List.mem_append.2 (.inr hx))))))
theorem normals_holds:Rows.PlaneNormalsSaid :=
 OpenClaim.holds_of_wide 4 Tryz.f4 rfl rfl rfl rfl rfl rfl rfl ⟨rfl,rfl,rfl,rfl,rfl⟩ rfl rfl rfl rfl rfl (by kernel_rfl) Tryz.func4 (by kernel_rfl)
  (of_decide_eq_true (by kernel_rfl)) (by unfold Func.isWrapper;first|(rw [if_pos (by decide +kernel)];kernel_rfl)|(rw [if_neg (by decide +kernel)];exact⟨rfl,rfl⟩))
  (fun os started H enc _=>normals_lifted os started H enc)
#print axioms normals_holds
end Go.Proofs.YtmkcjbpekejgdaaGreat
end
