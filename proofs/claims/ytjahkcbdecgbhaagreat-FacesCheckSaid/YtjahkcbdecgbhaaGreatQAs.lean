/-
  Parts of the proof, put together. No condition.
-/
import Derived.Test.YtjahkcbdecgbhaaGreatQAq
import Derived.Test.YtjahkcbdecgbhaaGreatQAr
set_option linter.unusedSimpArgs false
set_option linter.unusedVariables false
noncomputable section
namespace Go.Aw
open Go.RowKit
theorem ObjRen_2 {n sz:Nat}{wr g:Bool}{cs:List Value}(h:∀ v∈cs,ren1 id v=v∧nmS n v):ObjRen id n (.cells wr g sz cs) (.cells wr g sz cs) :=
 ⟨rfl,rfl,rfl,(by conv=>lhs;rw [← List.map_id cs]
                  exact List.map_congr_left fun v hv=>(h v hv).1.symm),fun v hv=>(h v hv).2⟩
theorem In_add {a0:List Value}{h0:Heap}{n0:Nat}{a:List Value}{h:Heap}{nx:Nat}(i:In a0 h0 n0 a h nx){b:Value}{n2 c2 sz:Nat}{cs:List Value}(hg:allG cs=true)
  (i2:In [.slice (some ⟨0,0,none⟩) n2 c2] [(0,.cells false true sz cs)] 1 [b] h nx) (hlow:∀ k o,look h0 k=some o→o.alone=false) :
  In (a0++[.slice (some ⟨n0,0,none⟩) n2 c2]) (app h0 [(n0,.cells false true sz cs)]) (n0+1) (a++[b]) h nx:=by
 intro ι B w H hs
 obtain⟨ι1,e1,k1,R1⟩:=i ι B w H (fun v hv=>hs v (List.mem_append_left _ hv))
 obtain⟨ι2,e2,k2,R2⟩:=i2 ι B w H (fun v hv=>hs v (List.mem_append_right _ hv))
 simp only [List.map_cons,List.map_nil,List.cons.injEq,and_true] at e2
 have q2:=R2.obj 0 _ rfl
 have kk2:=k2 _ (.head _)
 let ι0:Nat→Loc:=fun k=>if k<n0 then ι1 k else ι2 0
 have hlt:∀ k,k<n0→ι0 k=ι1 k:=fun k hk=>if_pos hk
 have hat:ι0 n0=ι2 0:=if_neg (Nat.lt_irrefl _)
 have hcase:∀ k o,look (app h0 [(n0,.cells false true sz cs)]) k=some o→(look h0 k=some o∧k<n0)∨(k=n0∧o=.cells false true sz cs):=by
  intro k o hk
  rw [look_app] at hk
  split at hk
  ·rename_i o' ho
   injection hk with hk
   subst hk
   exact .inl ⟨ho,R1.low k _ ho⟩
  ·rw [look_cons] at hk
   split at hk
   ·rename_i hb
    injection hk with hk
    exact .inr ⟨(beq_true hb).symm,hk.symm⟩
   ·exact noLook hk
 refine⟨ι0,?_,?_,⟨?_,?_,?_,Nat.le_refl _,?_⟩⟩
 ·rw [List.map_append,List.map_append,e1]
  congr 1
  ·refine List.map_congr_left fun v hv=>?_
   exact (tr_eq (ι:=ι1) (ι':=ι0) (n:=n0) hlt (k1 v hv)).symm
  ·simp only [List.map_cons,List.map_nil,e2]
   simp only [tr,trA,trS,trP,hat]
 ·intro v hv
  rcases List.mem_append.1 hv with hv|hv
  ·exact scT_mono (Nat.le_succ _) hlt (k1 v hv)
  ·simp only [List.mem_cons,List.not_mem_nil,or_false] at hv
   subst hv
   exact⟨Nat.lt_succ_self _,fun h=>kk2.2 (by rw [← h];show _=(ι0 n0).isAt;rw [hat])⟩
 ·intro k o hk
  rcases hcase k o hk with ⟨h1,h2⟩|⟨rfl,rfl⟩
  ·rw [hlt k h2]
   exact (R1.obj k o h1).names (R1.sc k o h1) hlt
  ·rw [hat]
   cases hl:ι2 0 with
   |nil p=>rw [hl] at q2;exact q2
   |lay b o e =>
    rw [hl] at q2
    obtain⟨x1,x2,x3⟩:=q2
    refine⟨x1,x2,fun i v hv=>?_⟩
    rw [x3 i v hv,trS_g (allG_mem hg (List.mem_of_getElem? hv)),trS_g (allG_mem hg (List.mem_of_getElem? hv))]
 ·intro k k' o o' hk hk' hne hal b hb
  rcases hcase k o hk with ⟨h1,h2⟩|⟨rfl,rfl⟩
  ·rw [hlow k o h1] at hal;cases hal
  ·cases hal
 ·intro k o hk
  rcases hcase k o hk with ⟨h1,h2⟩|⟨rfl,rfl⟩ <;> omega
 ·intro k o hk
  rcases hcase k o hk with ⟨h1,h2⟩|⟨rfl,rfl⟩
  ·exact (R1.sc k o h1).mono (Nat.le_succ _) hlt
  ·exact fun v hv=>scS_g (allG_mem hg hv)
section
variable {α β γ δ:Type}(E:El α)(G:El β)(J:El γ)(D:El δ)
def mapA (p q:Value)(n:Int):Value:=.agg #[p,q,.int .i64 n]
def mapH3 (l:List α)(m:List β)(k:List γ):Heap:=[(0,.cells false true E.sz (flat E.fl l)),(1,.cells false true G.sz (flat G.fl m)),(2,.cells false true J.sz (flat J.fl k))]
theorem In_map3 {p q o:Value}{n:Int}{r:List Value}(hr:allGA r=true){h:Heap}{nx:Nat}{l:List α}{m:List β}{k:List γ}(hl:LsAt E h p l)(hm:LsAt G h q m)(hk:LsAt J h o k) :
  ∃ c1 c2 c3,In (mapV2 l.length m.length c1 c2 n::(r++[.slice (some ⟨2,0,none⟩) k.length c3])) (mapH3 E G J l m k) 3 (mapA p q n::(r++[o])) h nx:=by
 obtain⟨c1,c2,i⟩:=In_map (n:=n) (nx:=nx) E G hr hl hm
 obtain⟨c3,i3⟩:=In_ls (nx:=nx) J hk
 refine⟨c1,c2,c3,In_add i (flat_g J k) i3 fun j ob hj=>?_⟩
 unfold mapH2 at hj
 rw [look_cons] at hj
 split at hj
 ·injection hj with hj;subst hj;rfl
 ·rw [look_cons] at hj
  split at hj
  ·injection hj with hj;subst hj;rfl
  ·exact noLook hj
def mLX (s:List α→List β→Int→List γ→List Value→Option (Bool × Value)):XF:=fun args h nx K =>
 ∃ p q n r o l m k,args=mapA p q n::(r++[o])∧LsAt E h p l∧LsAt G h q m∧LsAt J h o k∧(match s l m n k r with|some pr=>must pr.1 (K pr.2 h nx)|none=>False)
theorem mLX_ok {P:Program}{C:VC}{f:Nat}{s:List α→List β→Int→List γ→List Value→Option (Bool × Value)}(hC:CallsOK P C)
  (hs:∀ l m n k r v,s l m n k r=some (true,v)→allGA r=true∧gT v=true∧∀ c1 c2 c3,C f (mapV2 l.length m.length c1 c2 n::(r++[.slice (some ⟨2,0,none⟩) k.length c3])) (mapH3 E G J l m k) 3 (fun u _ _=>u=v)):XOK P f (mLX E G J s):=by
 refine (xOf_ok (S:=fun args0 h0 n0 v1 h1 j=>∃ l m n k r c1 c2 c3,s l m n k r=some (true,v1)∧args0=mapV2 l.length m.length c1 c2 n::(r++[.slice (some ⟨2,0,none⟩) k.length c3])∧h0=mapH3 E G J l m k∧n0=3∧h1=[]∧j=0) hC ?_).mono ?_ ?_
 ·rintro args0 h0 n0 v1 h1 j ⟨l,m,n,k,r,c1,c2,c3,e1,rfl,rfl,rfl,rfl,rfl⟩
  obtain⟨a1,a2,a3⟩:=hs l m n k r v1 e1
  exact⟨rfl,_,a3 c1 c2 c3,fun v h nx e=>by rw [e];exact Outc_g a2⟩
 ·rintro args h nx K ⟨p,q,n,r,o,l,m,k,rfl,hl,hm,hk,hx⟩
  split at hx
  case h_2=>exact hx.elim
  rename_i pr e1
  obtain⟨bb,u⟩:=pr
  obtain⟨rfl,hx⟩:=must_iff.1 hx
  obtain⟨a1,a2,a3⟩:=hs l m n k r u e1
  obtain⟨c1,c2,c3,i⟩:=In_map3 (n:=n) (nx:=nx) E G J a1 hl hm hk
  refine⟨_,_,3,u,[],0,⟨l,m,n,k,r,c1,c2,c3,e1,rfl,rfl,rfl,rfl,rfl⟩,i,?_⟩
  simp only [past,ownH,shH,app_nil,ren_g a2,Nat.add_zero]
  exact hx
 ·rintro args h nx K ⟨p,q,n,r,o,l,m,k,rfl,hl,hm,hk,hx⟩
  split at hx
  case h_2=>exact hx.elim
  rename_i pr e1
  obtain⟨hb,hx⟩:=must_iff.1 hx
  exact⟨pr.2,h,nx,hx,fun K' hk'=>⟨p,q,n,r,o,l,m,k,rfl,hl,hm,hk,by rw [e1];exact must_of hb hk'⟩⟩
def wrW:List Value→Value→Value
 |[],v=>v
 |a::r,v=>.agg (v::a::r).toArray
theorem wrW_ren {ρ:Nat→Nat}{rest:List Value}(hr:allG rest=true){k n c:Nat}:ren ρ (wrW rest (.slice (some ⟨k,0,none⟩) n c))=wrW rest (.slice (some ⟨ρ k,0,none⟩) n c):=by
 cases rest with
 |nil=>simp [wrW,ren,tr,trA,trS,trP,at0]
 |cons a r =>
  show Value.agg (Array.map (trS (at0 ρ)) (_::a::r).toArray)=Value.agg (_::a::r).toArray
  rw [List.map_toArray,List.map_cons]
  congr 2
  rw [List.cons.injEq]
  refine⟨by simp [trS,trP,at0],?_⟩
  conv=>rhs;rw [← List.map_id (a::r)]
  exact List.map_congr_left fun v hv=>trS_g (allG_mem hr hv)
theorem wrW_nm {rest:List Value}(hr:allG rest=true){n c:Nat}:nmT 1 (wrW rest (.slice (some ⟨0,0,none⟩) n c)):=by
 cases rest with
 |nil=>exact⟨Nat.one_pos,fun h=>by cases h⟩
 |cons a r =>
  intro v hv
  rcases List.mem_cons.1 hv with rfl|hv
  ·exact⟨Nat.one_pos,fun h=>by cases h⟩
  ·exact scS_g (allG_mem hr hv)
def ylH (out:List δ):Heap:=[(0,.cells true false D.sz (flat D.fl out))]
def ylV (out:List δ)(rest:List Value)(k:Nat):Value:=wrW rest (.slice (some ⟨k,0,none⟩) out.length out.length)
def YW (out:List δ)(rest:List Value):KE:=fun v h _=>∃ q,v=ylV out rest q∧look h q=some (.cells true false D.sz (flat D.fl out))
theorem YW_out {out:List δ}{rest:List Value}(hr:allG rest=true){v:Value}{h:Heap}{nx:Nat}(hy:YW D out rest v h nx):Outc (ylV out rest 0) (ylH D out) 1 v h nx:=by
 obtain⟨q,rfl,hq⟩:=hy
 refine⟨fun _=>q,fun t v hv=>?_,fun k o hk=>?_,fun k k' o o' hk hk' _=>?_,fun k hk=>absurd hk (Nat.not_lt_zero _),Nat.zero_le _⟩
 ·rw [look_cons] at hv
  split at hv
  ·rename_i hb
   injection hv with hv
   subst hv
   refine⟨?_,wrW_nm hr⟩
   rw [look_cons,hb]
   show _=some (ren (fun _=>q) (wrW rest (.slice (some ⟨0,0,none⟩) out.length out.length)))
   rw [wrW_ren hr]
   rfl
  ·exact noLook hv
 ·unfold ylH at hk
  rw [look_cons] at hk
  split at hk
  ·rename_i hb
   injection hk with hk
   subst hk
   rw [← beq_true hb]
   exact⟨Nat.one_pos,_,hq,rfl,rfl,rfl,(map_trS_g (flat_g D out)).symm,fun v hv=>scS_g (allG_mem (flat_g D out) hv)⟩
  ·exact noLook hk
 ·unfold ylH at hk hk'
  rw [look_cons] at hk hk'
  split at hk
  ·rename_i h1
   split at hk'
   ·rename_i h2
    exact (beq_true h1).symm.trans (beq_true h2)
   ·exact noLook hk'
  ·exact noLook hk
theorem YW_in {out:List δ}{rest:List Value}(hr:allG rest=true){h:Heap}{nx:Nat}{K:KE}(hk:K (ylV out rest nx) (hput h nx (.cells true false D.sz (flat D.fl out))) (nx+1)) :
  K (ren (fun k=>nx+k) (ylV out rest 0)) (app (shH nx (ylH D out)) (past (ylH D out) h)) (nx+1):=by
 have hm:(flat D.fl out).map (ren1 (fun k=>nx+k))=flat D.fl out:=map_trS_g (flat_g D _)
 have e1:ren (fun k=>nx+k) (ylV out rest 0)=ylV out rest nx:=wrW_ren hr
 have e2:app (shH nx (ylH D out)) (past (ylH D out) h)=hput h nx (.cells true false D.sz (flat D.fl out)):=by
  show (nx+0,AObj.cells true false D.sz ((flat D.fl out).map (ren1 (fun k=>nx+k))))::h=_
  rw [hm];rfl
 rw [e1,e2]
 exact hk
abbrev YS (δ:Type):=Option (Bool × List δ × List Value)
def mYX (s:List α→List β→Int→List Value→YS δ):XF:=fun args h nx K=>∃ p q n r l m,args=mapA p q n::r∧LsAt E h p l∧LsAt G h q m ∧
 (match s l m n r with|some pr=>must pr.1 (K (ylV pr.2.1 pr.2.2 nx) (hput h nx (.cells true false D.sz (flat D.fl pr.2.1))) (nx+1))|none=>False)
theorem mYX_ok {P:Program}{C:VC}{f:Nat}{s:List α→List β→Int→List Value→YS δ}(hC:CallsOK P C)
  (hs:∀ l m n r out rest,s l m n r=some (true,out,rest)→allGA r=true∧allG rest=true∧∀ c1 c2,C f (mapV2 l.length m.length c1 c2 n::r) (mapH2 E G l m) 2 (YW D out rest)):XOK P f (mYX E G D s):=by
 refine (xOf_ok (S:=fun args0 h0 n0 v1 h1 j=>∃ l m n r c1 c2 out rest,s l m n r=some (true,out,rest)∧args0=mapV2 l.length m.length c1 c2 n::r∧h0=mapH2 E G l m∧n0=2∧v1=ylV out rest 0∧h1=ylH D out∧j=1) hC ?_).mono ?_ ?_
 ·rintro args0 h0 n0 v1 h1 j ⟨l,m,n,r,c1,c2,out,rest,e1,rfl,rfl,rfl,rfl,rfl,rfl⟩
  obtain⟨a1,a2,a3⟩:=hs l m n r out rest e1
  exact⟨rfl,_,a3 c1 c2,fun v h nx e=>YW_out D a2 e⟩
 ·rintro args h nx K ⟨p,q,n,r,l,m,rfl,hl,hm,hx⟩
  split at hx
  case h_2=>exact hx.elim
  rename_i pr e1
  obtain⟨bb,out,rest⟩:=pr
  obtain⟨rfl,hx⟩:=must_iff.1 hx
  obtain⟨a1,a2,a3⟩:=hs l m n r out rest e1
  obtain⟨c1,c2,i⟩:=In_map (n:=n) (nx:=nx) E G a1 hl hm
  exact⟨_,_,2,_,_,1,⟨l,m,n,r,c1,c2,out,rest,e1,rfl,rfl,rfl,rfl,rfl,rfl⟩,i,YW_in D a2 hx⟩
 ·rintro args h nx K ⟨p,q,n,r,l,m,rfl,hl,hm,hx⟩
  split at hx
  case h_2=>exact hx.elim
  rename_i pr e1
  obtain⟨hb,hx⟩:=must_iff.1 hx
  exact⟨_,_,_,hx,fun K' hk'=>⟨p,q,n,r,l,m,rfl,hl,hm,by rw [e1];exact must_of hb hk'⟩⟩
def mLYX (s:List α→List β→Int→List γ→List Value→YS δ):XF:=fun args h nx K=>∃ p q n r o l m k,args=mapA p q n::(r++[o])∧LsAt E h p l∧LsAt G h q m∧LsAt J h o k ∧
 (match s l m n k r with|some pr=>must pr.1 (K (ylV pr.2.1 pr.2.2 nx) (hput h nx (.cells true false D.sz (flat D.fl pr.2.1))) (nx+1))|none=>False)
theorem mLYX_ok {P:Program}{C:VC}{f:Nat}{s:List α→List β→Int→List γ→List Value→YS δ}(hC:CallsOK P C)
  (hs:∀ l m n k r out rest,s l m n k r=some (true,out,rest)→allGA r=true∧allG rest=true∧∀ c1 c2 c3,C f (mapV2 l.length m.length c1 c2 n::(r++[.slice (some ⟨2,0,none⟩) k.length c3])) (mapH3 E G J l m k) 3 (YW D out rest)):XOK P f (mLYX E G J D s):=by
 refine (xOf_ok (S:=fun args0 h0 n0 v1 h1 j=>∃ l m n k r c1 c2 c3 out rest,s l m n k r=some (true,out,rest)∧args0=mapV2 l.length m.length c1 c2 n::(r++[.slice (some ⟨2,0,none⟩) k.length c3])∧h0=mapH3 E G J l m k∧n0=3∧v1=ylV out rest 0∧h1=ylH D out∧j=1) hC ?_).mono ?_ ?_
 ·rintro args0 h0 n0 v1 h1 j ⟨l,m,n,k,r,c1,c2,c3,out,rest,e1,rfl,rfl,rfl,rfl,rfl,rfl⟩
  obtain⟨a1,a2,a3⟩:=hs l m n k r out rest e1
  exact⟨rfl,_,a3 c1 c2 c3,fun v h nx e=>YW_out D a2 e⟩
 ·rintro args h nx K ⟨p,q,n,r,o,l,m,k,rfl,hl,hm,hk,hx⟩
  split at hx
  case h_2=>exact hx.elim
  rename_i pr e1
  obtain⟨bb,out,rest⟩:=pr
  obtain⟨rfl,hx⟩:=must_iff.1 hx
  obtain⟨a1,a2,a3⟩:=hs l m n k r out rest e1
  obtain⟨c1,c2,c3,i⟩:=In_map3 (n:=n) (nx:=nx) E G J a1 hl hm hk
  exact⟨_,_,3,_,_,1,⟨l,m,n,k,r,c1,c2,c3,out,rest,e1,rfl,rfl,rfl,rfl,rfl,rfl⟩,i,YW_in D a2 hx⟩
 ·rintro args h nx K ⟨p,q,n,r,o,l,m,k,rfl,hl,hm,hk,hx⟩
  split at hx
  case h_2=>exact hx.elim
  rename_i pr e1
  obtain⟨hb,hx⟩:=must_iff.1 hx
  exact⟨_,_,_,hx,fun K' hk'=>⟨p,q,n,r,o,l,m,k,rfl,hl,hm,hk,by rw [e1];exact must_of hb hk'⟩⟩
end
end Go.Aw
end

noncomputable section
namespace Go.Aw
set_option maxRecDepth 100000
def SEnds:List Value→Option (Bool × List (Int × Int) × Option Int)
 |[u,v]=>(match decS u with|some s=>(match decS v with|some t=>some (wideS s&&wideS t,endsL s t,none)|none=>none)|none=>none)
 |_=>none
theorem SEnds_inv {args:List Value}{l:List (Int × Int)}{e:Option Int}(hs:SEnds args=some (true,l,e)):∃ s t,args=[sgv s,sgv t]∧(wideS s&&wideS t)=true∧l=endsL s t∧e=none:=by
 unfold SEnds at hs
 split at hs
 ·split at hs
  ·rename_i s e1
   split at hs
   ·rename_i t e2
    injection hs with hs
    injection hs with h1 h2
    injection h2 with h2 h3
    exact⟨s,t,by rw [decS_eq e1,decS_eq e2],h1,h2.symm,h3.symm⟩
   ·cases hs
  ·cases hs
 ·cases hs
def eE (v:Value)(j:Int):List (Nat × Value):=[(2,.pointer (some ⟨0,0,none⟩)),(3,.pointer (some ⟨1,0,none⟩)),(5,v),(6,.slice (some ⟨2,0,none⟩) 4 4),(7,iv j)]
def cellsS (s:Sg):List Value:=[iv s.1.1,iv s.1.2,iv s.2.1,iv s.2.2]
def hE (s t:Sg)(ps:List (Int × Int)):Heap:=[(0,.cells true false 1 (cellsS s)),(1,.cells true false 1 (cellsS t)),(2,.cells true false 2 (flat elP.fl ps))]
def hE1 (s t:Sg)(ps out:List (Int × Int)):Heap:=[(0,.cells true false 1 (cellsS s)),(1,.cells true false 1 (cellsS t)),(2,.cells true false 2 (flat elP.fl ps)),(3,.cells true false 2 (flat elP.fl out))]
def eI (v:Value)(j:Int)(b1 b2 b:Bool)(k:Int):List (Nat × Value):=[(2,.pointer (some ⟨0,0,none⟩)),(3,.pointer (some ⟨1,0,none⟩)),(5,v),(6,.slice (some ⟨2,0,none⟩) 4 4),(7,iv j),(8,.bool b1),(9,.bool b2),(10,.bool b),(11,iv k)]
theorem known_app (p q:Int × Int)(l:List (Int × Int)):knownS p (l++[q])=(knownS p l || eqP q p):=by
 induction l with
 |nil=>simp [knownS]
 |cons a r ih=>simp only [List.cons_append,knownS,ih,Bool.or_assoc]
theorem known_take {p:Int × Int}{l:List (Int × Int)}{k:Nat}(h:k<l.length):knownS p (l.take (k+1))=(knownS p (l.take k) || eqP (at2 l k) p):=by
 rw [List.take_add_one,List.getElem?_eq_getElem h,at2_eq h,← known_app]
 rfl
theorem adds_len' {s t:Sg}(l out:List (Int × Int)):(l.foldl (addE s t) out).length≤out.length+l.length:=by
 induction l generalizing out with
 |nil=>simp
 |cons a r ih =>
  have:=ih (addE s t out a)
  have h2:(addE s t out a).length≤out.length+1:=by
   unfold addE
   split <;> simp
  simp only [List.foldl_cons,List.length_cons]
  omega
theorem adds_len {s t:Sg}{l:List (Int × Int)}(h:l.length≤4):(l.foldl (addE s t) []).length≤4:=by
 have:=adds_len' (s:=s) (t:=t) l []
 simp at this
 omega
theorem flat_grow (l:List (Int × Int))(p:Int × Int):List.take (l.length*2) (List.drop 0 (flat elP.fl l))++[iv p.1,iv p.2]=flat elP.fl (l++[p]):=by
 rw [flat_append,List.drop_zero,List.take_of_length_le (by rw [flat_len];exact Nat.le_refl _)]
 rfl
def X70:Nat × XF:=(264,fX elP SEnds)
theorem x70:XOK Go.Proofs.Tryz.prog X70.1 X70.2:=fX_ok elP (body_calls (xl:=[X67]) (.cons x67 .nil)) fun args l e hs=>by
 obtain⟨s,t,rfl,hw,rfl,rfl⟩:=SEnds_inv hs
 refine⟨rfl,?_⟩
 clear hs
 obtain⟨⟨ax,ay⟩,⟨bx,b2⟩⟩:=s
 obtain⟨⟨cx,cy⟩,⟨dx,dy⟩⟩:=t
 obtain⟨ps,hps⟩:∃ ps:List (Int × Int),ps=[(ax,ay),(bx,b2),(cx,cy),(dx,dy)]:=⟨_,rfl⟩
 (conv=>whnf)
 refine⟨fun n e h nx=>∃ (i:Nat) (j:Int) (out:List (Int × Int)),j=i∧i≤4∧n=4 - i∧out=(ps.take i).foldl (addE ((ax,ay),(bx,b2)) ((cx,cy),(dx,dy))) [] ∧
  ((out=[]∧e=eE (.slice none 0 0) j∧h=hE ((ax,ay),(bx,b2)) ((cx,cy),(dx,dy)) ps∧nx=3)∨(0<out.length∧e=eE (.slice (some ⟨3,0,none⟩) out.length out.length) j∧h=hE1 ((ax,ay),(bx,b2)) ((cx,cy),(dx,dy)) ps out∧nx=4)),⟨4,?_⟩,?_⟩
 ·subst hps
  refine Into_id (e0:=eE (.slice none 0 0) 0) (h0:=hE ((ax,ay),(bx,b2)) ((cx,cy),(dx,dy)) [(ax,ay),(bx,b2),(cx,cy),(dx,dy)]) (n0:=3) ⟨0,0,[],rfl,by decide,rfl,rfl,.inl ⟨rfl,rfl,rfl,rfl⟩⟩ ?_ ?_ (by decide)
  ·unfold eE
   ((repeat'(refine List.forall_mem_cons.2 ⟨⟨rfl,?_⟩,?_⟩;(first|exact scT_g rfl|exact⟨by decide,rfl⟩|exact⟨by decide,fun h=>(by cases h)⟩)));exact fun _ h=>(by cases h))
  ·unfold hE
   ((repeat'(refine List.forall_mem_cons.2 ⟨⟨Nat.le_of_ble_eq_true rfl,_,rfl,?_⟩,?_⟩;(first|exact ObjRen_g (flat_g _ _)|exact ObjRen_j rfl rfl)));exact fun _ h=>(by cases h))
 ·have hl4:ps.length=4:=by rw [hps];rfl
  simp only [Bool.and_eq_true] at hw
  have hww:∀ p∈ps,wide p=true:=by
   have h1:=hw.1
   have h2:=hw.2
   simp only [wideS,Bool.and_eq_true] at h1 h2
   subst hps
   exact List.forall_mem_cons.2 ⟨h1.1,List.forall_mem_cons.2 ⟨h1.2,List.forall_mem_cons.2 ⟨h2.1,List.forall_mem_cons.2 ⟨h2.2,fun _ h=>(by cases h)⟩⟩⟩⟩
  rintro n e h nx ⟨i,j,out,hj,hi,rfl,ho,⟨ho0,rfl,rfl,rfl⟩|⟨hol,rfl,rfl,rfl⟩⟩
  ·unfold eE hE
   ((conv=>whnf);refine bm (fun g1=>?_) (fun g1=>?_))
   ·have hlt:i<ps.length:=by simp [cfgS,std] at g1;omega
    have hwp:wide (at2 ps i)=true:=by rw [at2_eq hlt];exact hww _ (List.getElem_mem hlt)
    ((conv=>whnf);refine bm (fun g2=>?_) (fun g2=>?_))
    ·(conv=>whnf)
     refine boL (getP ps hlt ?_) ?_
     ·simp [cfgS,std];omega
     ((conv=>whnf);refine bm (fun g3=>?_) (fun g3=>?_))
     ·((conv=>whnf);refine bm (fun g4=>?_) (fun g4=>?_))
      ·(conv=>whnf)
       refine boL (getP ps hlt ?_) ?_
       ·simp [cfgS,std];omega
       ((conv=>whnf);refine bm (fun g5=>?_) (fun g5=>?_))
       ·(conv=>whnf)
        refine⟨fun n e h nx=>n=0∧e=eI (.slice none 0 0) j (onR (at2 ps i) ((ax,ay),(bx,b2))) (onR (at2 ps i) ((cx,cy),(dx,dy))) false 0∧h=hE ((ax,ay),(bx,b2)) ((cx,cy),(dx,dy)) ps∧nx=3,⟨0,?_⟩,?_⟩
        ·refine Into_id (e0:=eI (.slice none 0 0) j (onR (at2 ps i) ((ax,ay),(bx,b2))) (onR (at2 ps i) ((cx,cy),(dx,dy))) false 0) (h0:=hE ((ax,ay),(bx,b2)) ((cx,cy),(dx,dy)) ps) (n0:=3) ⟨rfl,rfl,rfl,rfl⟩ ?_ ?_ (by decide)
         ·unfold eI
          ((repeat'(refine List.forall_mem_cons.2 ⟨⟨rfl,?_⟩,?_⟩;(first|exact scT_g rfl|exact⟨by decide,rfl⟩|exact⟨by decide,fun h=>(by cases h)⟩)));exact fun _ h=>(by cases h))
         ·unfold hE
          ((repeat'(refine List.forall_mem_cons.2 ⟨⟨Nat.le_of_ble_eq_true rfl,_,rfl,?_⟩,?_⟩;(first|exact ObjRen_g (flat_g _ _)|exact ObjRen_j rfl rfl)));exact fun _ h=>(by cases h))
        ·rintro n e h nx ⟨rfl,rfl,rfl,rfl⟩
         have hat:ps.take (i+1)=ps.take i++[at2 ps i]:=by
          rw [at2_eq hlt,List.take_add_one,List.getElem?_eq_getElem hlt];rfl
         have ho':(ps.take (i+1)).foldl (addE ((ax,ay),(bx,b2)) ((cx,cy),(dx,dy))) []=addE ((ax,ay),(bx,b2)) ((cx,cy),(dx,dy)) [] (at2 ps i):=by
          rw [hat,List.foldl_append,← ho,ho0];rfl
         unfold eI hE
         repeat' first
          |((conv=>whnf)
            refine boL (getP ps hlt ?_) ?_
            ·simp [cfgS,std];omega)
          |(((conv=>whnf);refine bm (fun g=>?_) (fun g=>?_)))
         all_goals (conv=>whnf)
         ·clear g1 g2 g3 g4 g5
          rename_i ga gb _
          refine⟨4 - (i+1),by omega,?_⟩
          refine Into_mv (e0:=eE (.slice (some ⟨3,0,none⟩) 1 1) (j+1)) (h0:=hE1 ((ax,ay),(bx,b2)) ((cx,cy),(dx,dy)) ps [at2 ps i]) (n0:=4) 3 4 (by decide) (by decide)
           ⟨i+1,j+1,[at2 ps i],by omega,by omega,rfl,?_,.inr ⟨Nat.one_pos,rfl,rfl,rfl⟩⟩ ?_ ?_ ?_
          ·simp only [cA_eqB,beq_iff_eq] at ga gb
           rw [ho',addE,if_pos ⟨ga,gb,rfl⟩];rfl
          ·unfold eE
           ((repeat'(refine List.forall_mem_cons.2 ⟨⟨rfl,?_⟩,?_⟩;(first|exact scT_g rfl|exact⟨by decide,rfl⟩|exact⟨by decide,fun h=>(by cases h)⟩)));exact fun _ h=>(by cases h))
          ·unfold hE1
           ((repeat'(refine List.forall_mem_cons.2 ⟨⟨Nat.le_of_ble_eq_true rfl,_,rfl,?_⟩,?_⟩;(first|exact ObjRen_g (flat_g _ _)|exact ObjRen_j rfl rfl)));exact fun _ h=>(by cases h))
          ·unfold hE1
           ((repeat'(refine List.forall_mem_cons.2 ⟨?_,?_⟩;(intro _ h;revert h;simp)));exact fun _ h=>(by cases h))
         ·exfalso;simp only [cA_add,cA_fits,fitsK,Bool.eq_false_iff,ne_eq,Bool.and_eq_true,decide_eq_true_eq] at g;omega
         ·exfalso;rw [g] at g2;cases g2
         ·clear g1 g2 g3 g4 g5
          rename_i ga gb
          refine⟨4 - (i+1),by omega,?_⟩
          refine Into_id (e0:=eE (.slice none 0 0) (j+1)) (h0:=hE ((ax,ay),(bx,b2)) ((cx,cy),(dx,dy)) ps) (n0:=3) ⟨i+1,j+1,[],by omega,by omega,rfl,?_,.inl ⟨rfl,rfl,rfl,rfl⟩⟩ ?_ ?_ (by decide)
          ·simp only [cA_eqB,beq_eq_false_iff_ne,ne_eq] at gb
           rw [ho',addE,if_neg fun h=>gb h.2.1]
          ·unfold eE
           ((repeat'(refine List.forall_mem_cons.2 ⟨⟨rfl,?_⟩,?_⟩;(first|exact scT_g rfl|exact⟨by decide,rfl⟩|exact⟨by decide,fun h=>(by cases h)⟩)));exact fun _ h=>(by cases h))
          ·unfold hE
           ((repeat'(refine List.forall_mem_cons.2 ⟨⟨Nat.le_of_ble_eq_true rfl,_,rfl,?_⟩,?_⟩;(first|exact ObjRen_g (flat_g _ _)|exact ObjRen_j rfl rfl)));exact fun _ h=>(by cases h))
         ·exfalso;simp only [cA_add,cA_fits,fitsK,Bool.eq_false_iff,ne_eq,Bool.and_eq_true,decide_eq_true_eq] at g;omega
         ·clear g1 g2 g3 g4 g5
          rename_i ga
          refine⟨4 - (i+1),by omega,?_⟩
          refine Into_id (e0:=eE (.slice none 0 0) (j+1)) (h0:=hE ((ax,ay),(bx,b2)) ((cx,cy),(dx,dy)) ps) (n0:=3) ⟨i+1,j+1,[],by omega,by omega,rfl,?_,.inl ⟨rfl,rfl,rfl,rfl⟩⟩ ?_ ?_ (by decide)
          ·simp only [cA_eqB,beq_eq_false_iff_ne,ne_eq] at ga
           rw [ho',addE,if_neg fun h=>ga h.1]
          ·unfold eE
           ((repeat'(refine List.forall_mem_cons.2 ⟨⟨rfl,?_⟩,?_⟩;(first|exact scT_g rfl|exact⟨by decide,rfl⟩|exact⟨by decide,fun h=>(by cases h)⟩)));exact fun _ h=>(by cases h))
          ·unfold hE
           ((repeat'(refine List.forall_mem_cons.2 ⟨⟨Nat.le_of_ble_eq_true rfl,_,rfl,?_⟩,?_⟩;(first|exact ObjRen_g (flat_g _ _)|exact ObjRen_j rfl rfl)));exact fun _ h=>(by cases h))
         ·exfalso;simp only [cA_add,cA_fits,fitsK,Bool.eq_false_iff,ne_eq,Bool.and_eq_true,decide_eq_true_eq] at g;omega
       ·exfalso;simp only [hwp,Bool.true_and] at g5;rw [show wideS _=true from hw.2] at g5;cases g5
      ·exfalso;rw [g4] at g2;cases g2
     ·exfalso;simp only [hwp,Bool.true_and] at g3;rw [show wideS _=true from hw.1] at g3;cases g3
    ·exfalso;simp only [cA_lt,cA_le,cA_andB,cA_num,Bool.eq_false_iff,ne_eq,Bool.and_eq_true,decide_eq_true_eq] at g1 g2;omega
   ·(conv=>whnf)
    have h4:i=4:=by simp only [cA_lt,cA_num,decide_eq_false_iff_not] at g1;omega
    subst h4
    have:endsL ((ax,ay),(bx,b2)) ((cx,cy),(dx,dy))=[]:=by
     rw [← ho0,ho,hps];rfl
    rw [this]
    rfl
  ·have out_len:out.length≤4:=by rw [ho];exact adds_len (by rw [List.length_take];omega)
   unfold eE hE1
   ((conv=>whnf);refine bm (fun g1=>?_) (fun g1=>?_))
   ·have hlt:i<ps.length:=by simp [cfgS,std] at g1;omega
    have hwp:wide (at2 ps i)=true:=by rw [at2_eq hlt];exact hww _ (List.getElem_mem hlt)
    ((conv=>whnf);refine bm (fun g2=>?_) (fun g2=>?_))
    ·(conv=>whnf)
     refine boL (getP ps hlt ?_) ?_
     ·simp [cfgS,std];omega
     ((conv=>whnf);refine bm (fun g3=>?_) (fun g3=>?_))
     ·((conv=>whnf);refine bm (fun g4=>?_) (fun g4=>?_))
      ·(conv=>whnf)
       refine boL (getP ps hlt ?_) ?_
       ·simp [cfgS,std];omega
       ((conv=>whnf);refine bm (fun g5=>?_) (fun g5=>?_))
       ·(conv=>whnf)
        refine⟨fun n e h nx=>∃ (k:Nat) (jk:Int),jk=k∧k≤out.length∧n=out.length - k∧e=eI (.slice (some ⟨3,0,none⟩) out.length out.length) j (onR (at2 ps i) ((ax,ay),(bx,b2))) (onR (at2 ps i) ((cx,cy),(dx,dy))) (knownS (at2 ps i) (out.take k)) jk∧h=hE1 ((ax,ay),(bx,b2)) ((cx,cy),(dx,dy)) ps out∧nx=4,⟨out.length,?_⟩,?_⟩
        ·refine Into_id (e0:=eI (.slice (some ⟨3,0,none⟩) out.length out.length) j (onR (at2 ps i) ((ax,ay),(bx,b2))) (onR (at2 ps i) ((cx,cy),(dx,dy))) false 0) (h0:=hE1 ((ax,ay),(bx,b2)) ((cx,cy),(dx,dy)) ps out) (n0:=4) ⟨0,0,rfl,Nat.zero_le _,rfl,rfl,rfl,rfl⟩ ?_ ?_ (by decide)
         ·unfold eI
          ((repeat'(refine List.forall_mem_cons.2 ⟨⟨rfl,?_⟩,?_⟩;(first|exact scT_g rfl|exact⟨by decide,rfl⟩|exact⟨by decide,fun h=>(by cases h)⟩)));exact fun _ h=>(by cases h))
         ·unfold hE1
          ((repeat'(refine List.forall_mem_cons.2 ⟨⟨Nat.le_of_ble_eq_true rfl,_,rfl,?_⟩,?_⟩;(first|exact ObjRen_g (flat_g _ _)|exact ObjRen_j rfl rfl)));exact fun _ h=>(by cases h))
        ·rintro n e h nx ⟨k,jk,hjk,hk,rfl,rfl,rfl,rfl⟩
         have hat:ps.take (i+1)=ps.take i++[at2 ps i]:=by
          rw [at2_eq hlt,List.take_add_one,List.getElem?_eq_getElem hlt];rfl
         have ho':(ps.take (i+1)).foldl (addE ((ax,ay),(bx,b2)) ((cx,cy),(dx,dy))) []=addE ((ax,ay),(bx,b2)) ((cx,cy),(dx,dy)) out (at2 ps i):=by
          rw [hat,List.foldl_append,← ho];rfl
         unfold eI hE1
         ((conv=>whnf);refine bm (fun f1=>?_) (fun f1=>?_))
         ·have hltk:k<out.length:=by simp [cfgS,std] at f1;omega
          repeat' first
           |((conv=>whnf)
             refine boL (getP out hltk ?_) ?_
             ·simp [cfgS,std];omega)
           |((conv=>whnf)
             refine boL (getP ps hlt ?_) ?_
             ·simp [cfgS,std];omega)
           |(((conv=>whnf);refine bm (fun g=>?_) (fun g=>?_)))
          all_goals (conv=>whnf)
          ·clear g1 g2 g3 g4 g5
           rename_i ga _ _
           refine⟨out.length - (k+1),by omega,?_⟩
           refine Into_id (e0:=eI (.slice (some ⟨3,0,none⟩) out.length out.length) j (onR (at2 ps i) ((ax,ay),(bx,b2))) (onR (at2 ps i) ((cx,cy),(dx,dy))) (eqP (at2 out k) (at2 ps i)) (jk+1)) (h0:=hE1 ((ax,ay),(bx,b2)) ((cx,cy),(dx,dy)) ps out) (n0:=4) ⟨k+1,jk+1,by omega,hltk,rfl,?_,rfl,rfl⟩ ?_ ?_ (by decide)
           ·simp only [cA_eqB,beq_iff_eq,beq_eq_false_iff_ne,ne_eq,Bool.not_eq_false] at ga
            rw [known_take hltk,ga];rfl
           ·unfold eI
            ((repeat'(refine List.forall_mem_cons.2 ⟨⟨rfl,?_⟩,?_⟩;(first|exact scT_g rfl|exact⟨by decide,rfl⟩|exact⟨by decide,fun h=>(by cases h)⟩)));exact fun _ h=>(by cases h))
           ·unfold hE1
            ((repeat'(refine List.forall_mem_cons.2 ⟨⟨Nat.le_of_ble_eq_true rfl,_,rfl,?_⟩,?_⟩;(first|exact ObjRen_g (flat_g _ _)|exact ObjRen_j rfl rfl)));exact fun _ h=>(by cases h))
          ·exfalso;have:=out_len;simp only [cA_add,cA_fits,fitsK,Bool.eq_false_iff,ne_eq,Bool.and_eq_true,decide_eq_true_eq] at g;omega
          ·exfalso;rw [g] at g2;cases g2
          ·exfalso;simp only [cA_lt,cA_le,cA_andB,cA_num,Bool.eq_false_iff,ne_eq,Bool.and_eq_true,decide_eq_true_eq] at g;omega
          ·clear g1 g2 g3 g4 g5
           rename_i ga
           refine⟨out.length - (k+1),by omega,?_⟩
           refine Into_id (e0:=eI (.slice (some ⟨3,0,none⟩) out.length out.length) j (onR (at2 ps i) ((ax,ay),(bx,b2))) (onR (at2 ps i) ((cx,cy),(dx,dy))) true (jk+1)) (h0:=hE1 ((ax,ay),(bx,b2)) ((cx,cy),(dx,dy)) ps out) (n0:=4) ⟨k+1,jk+1,by omega,hltk,rfl,?_,rfl,rfl⟩ ?_ ?_ (by decide)
           ·simp only [cA_eqB,beq_iff_eq,beq_eq_false_iff_ne,ne_eq,Bool.not_eq_false] at ga
            rw [known_take hltk,ga];rfl
           ·unfold eI
            ((repeat'(refine List.forall_mem_cons.2 ⟨⟨rfl,?_⟩,?_⟩;(first|exact scT_g rfl|exact⟨by decide,rfl⟩|exact⟨by decide,fun h=>(by cases h)⟩)));exact fun _ h=>(by cases h))
           ·unfold hE1
            ((repeat'(refine List.forall_mem_cons.2 ⟨⟨Nat.le_of_ble_eq_true rfl,_,rfl,?_⟩,?_⟩;(first|exact ObjRen_g (flat_g _ _)|exact ObjRen_j rfl rfl)));exact fun _ h=>(by cases h))
          ·exfalso;simp only [cA_add,cA_fits,fitsK,Bool.eq_false_iff,ne_eq,Bool.and_eq_true,decide_eq_true_eq] at g;omega
         ·have hkk:k=out.length:=by simp only [cA_lt,cA_num,decide_eq_false_iff_not] at f1;omega
          repeat' first
           |((conv=>whnf)
             refine boL (getP ps hlt ?_) ?_
             ·simp [cfgS,std];omega)
           |(((conv=>whnf);refine bm (fun g=>?_) (fun g=>?_)))
          all_goals (conv=>whnf)
          ·exfalso;rename_i gc _;have:=Nat.le_of_ble_eq_true gc;omega
          ·exfalso;rename_i gc _;have:=Nat.le_of_ble_eq_true gc;omega
          ·exfalso;rename_i gc;have:=Nat.le_of_ble_eq_true gc;omega
          ·clear g1 g2 g3 g4 g5
           rename_i ga gb gx _ _ _
           refine⟨4 - (i+1),by omega,?_⟩
           refine Into_mv (e0:=eE (.slice (some ⟨3,0,none⟩) (out.length+1) (out.length+1)) (j+1)) (h0:=hE1 ((ax,ay),(bx,b2)) ((cx,cy),(dx,dy)) ps (out++[at2 ps i])) (n0:=4) 3 5 (by decide) (by decide)
            ⟨i+1,j+1,out++[at2 ps i],by omega,by omega,rfl,?_,.inr ⟨by rw [List.length_append];exact Nat.succ_pos _,by rw [List.length_append];rfl,rfl,rfl⟩⟩ ?_ ?_ ?_
           ·simp only [cA_eqB,cA_notB,beq_iff_eq,Bool.not_eq_true'] at ga gb gx
            rw [ho',addE,if_pos ⟨ga,gb,by rw [hkk,List.take_length] at gx;exact gx⟩]
           ·unfold eE
            ((repeat'(refine List.forall_mem_cons.2 ⟨⟨rfl,?_⟩,?_⟩;(first|exact scT_g rfl|exact⟨by decide,rfl⟩|exact⟨by decide,fun h=>(by cases h)⟩)));exact fun _ h=>(by cases h))
           ·unfold hE1
            ((repeat'(refine List.forall_mem_cons.2 ⟨⟨Nat.le_of_ble_eq_true rfl,_,rfl,?_⟩,?_⟩;(first|exact (ObjRen_j (flat_g elP _) (flat_grow out _))|exact ObjRen_g (flat_g _ _)|exact ObjRen_j rfl rfl)));exact fun _ h=>(by cases h))
           ·unfold hE1
            ((repeat'(refine List.forall_mem_cons.2 ⟨?_,?_⟩;(intro _ h;revert h;simp)));exact fun _ h=>(by cases h))
          ·exfalso;simp only [cA_add,cA_fits,fitsK,Bool.eq_false_iff,ne_eq,Bool.and_eq_true,decide_eq_true_eq] at g;omega
          ·exfalso
           have hf:(flat elP.fl out).length=out.length*2:=flat_len elP out
           have hol4:out.length≤4:=by rw [ho];exact adds_len (by rw [List.length_take];omega)
           simp only [cA_andB,hf] at g
           revert g
           simp
           omega
          ·exfalso;rw [g] at g2;cases g2
          ·clear g1 g2 g3 g4 g5
           rename_i gx
           refine⟨4 - (i+1),by omega,?_⟩
           refine Into_id (e0:=eE (.slice (some ⟨3,0,none⟩) out.length out.length) (j+1)) (h0:=hE1 ((ax,ay),(bx,b2)) ((cx,cy),(dx,dy)) ps out) (n0:=4) ⟨i+1,j+1,out,by omega,by omega,rfl,?_,.inr ⟨hol,rfl,rfl,rfl⟩⟩ ?_ ?_ (by decide)
           ·simp only [cA_eqB,cA_notB,beq_eq_false_iff_ne,ne_eq,Bool.not_eq_false'] at gx
            rw [ho',addE,if_neg fun h=>by rw [hkk,List.take_length] at gx;rw [gx] at h;exact absurd h.2.2 (by decide)]
           ·unfold eE
            ((repeat'(refine List.forall_mem_cons.2 ⟨⟨rfl,?_⟩,?_⟩;(first|exact scT_g rfl|exact⟨by decide,rfl⟩|exact⟨by decide,fun h=>(by cases h)⟩)));exact fun _ h=>(by cases h))
           ·unfold hE1
            ((repeat'(refine List.forall_mem_cons.2 ⟨⟨Nat.le_of_ble_eq_true rfl,_,rfl,?_⟩,?_⟩;(first|exact ObjRen_g (flat_g _ _)|exact ObjRen_j rfl rfl)));exact fun _ h=>(by cases h))
          ·exfalso;simp only [cA_add,cA_fits,fitsK,Bool.eq_false_iff,ne_eq,Bool.and_eq_true,decide_eq_true_eq] at g;omega
          ·clear g1 g2 g3 g4 g5
           rename_i gx
           refine⟨4 - (i+1),by omega,?_⟩
           refine Into_id (e0:=eE (.slice (some ⟨3,0,none⟩) out.length out.length) (j+1)) (h0:=hE1 ((ax,ay),(bx,b2)) ((cx,cy),(dx,dy)) ps out) (n0:=4) ⟨i+1,j+1,out,by omega,by omega,rfl,?_,.inr ⟨hol,rfl,rfl,rfl⟩⟩ ?_ ?_ (by decide)
           ·simp only [cA_eqB,cA_notB,beq_eq_false_iff_ne,ne_eq,Bool.not_eq_false'] at gx
            rw [ho',addE,if_neg fun h=>gx h.2.1]
           ·unfold eE
            ((repeat'(refine List.forall_mem_cons.2 ⟨⟨rfl,?_⟩,?_⟩;(first|exact scT_g rfl|exact⟨by decide,rfl⟩|exact⟨by decide,fun h=>(by cases h)⟩)));exact fun _ h=>(by cases h))
           ·unfold hE1
            ((repeat'(refine List.forall_mem_cons.2 ⟨⟨Nat.le_of_ble_eq_true rfl,_,rfl,?_⟩,?_⟩;(first|exact ObjRen_g (flat_g _ _)|exact ObjRen_j rfl rfl)));exact fun _ h=>(by cases h))
          ·exfalso;simp only [cA_add,cA_fits,fitsK,Bool.eq_false_iff,ne_eq,Bool.and_eq_true,decide_eq_true_eq] at g;omega
          ·clear g1 g2 g3 g4 g5
           rename_i gx
           refine⟨4 - (i+1),by omega,?_⟩
           refine Into_id (e0:=eE (.slice (some ⟨3,0,none⟩) out.length out.length) (j+1)) (h0:=hE1 ((ax,ay),(bx,b2)) ((cx,cy),(dx,dy)) ps out) (n0:=4) ⟨i+1,j+1,out,by omega,by omega,rfl,?_,.inr ⟨hol,rfl,rfl,rfl⟩⟩ ?_ ?_ (by decide)
           ·simp only [cA_eqB,cA_notB,beq_eq_false_iff_ne,ne_eq,Bool.not_eq_false'] at gx
            rw [ho',addE,if_neg fun h=>gx h.1]
           ·unfold eE
            ((repeat'(refine List.forall_mem_cons.2 ⟨⟨rfl,?_⟩,?_⟩;(first|exact scT_g rfl|exact⟨by decide,rfl⟩|exact⟨by decide,fun h=>(by cases h)⟩)));exact fun _ h=>(by cases h))
           ·unfold hE1
            ((repeat'(refine List.forall_mem_cons.2 ⟨⟨Nat.le_of_ble_eq_true rfl,_,rfl,?_⟩,?_⟩;(first|exact ObjRen_g (flat_g _ _)|exact ObjRen_j rfl rfl)));exact fun _ h=>(by cases h))
          ·exfalso;simp only [cA_add,cA_fits,fitsK,Bool.eq_false_iff,ne_eq,Bool.and_eq_true,decide_eq_true_eq] at g;omega
       ·exfalso;simp only [hwp,Bool.true_and] at g5;rw [show wideS _=true from hw.2] at g5;cases g5
      ·exfalso;rw [g4] at g2;cases g2
     ·exfalso;simp only [hwp,Bool.true_and] at g3;rw [show wideS _=true from hw.1] at g3;cases g3
    ·exfalso;simp only [cA_lt,cA_le,cA_andB,cA_num,Bool.eq_false_iff,ne_eq,Bool.and_eq_true,decide_eq_true_eq] at g1 g2;omega
   ·(conv=>whnf)
    have h4:i=4:=by simp only [cA_lt,cA_num,decide_eq_false_iff_not] at g1;omega
    subst h4
    have:endsL ((ax,ay),(bx,b2)) ((cx,cy),(dx,dy))=out:=by
     rw [ho,hps];rfl
    rw [this]
    exact Yields_own (q:=3) (h:=hE1 ((ax,ay),(bx,b2)) ((cx,cy),(dx,dy)) ps out) (nx:=4) (e:=none) elP hol rfl
end Go.Aw
end

noncomputable section
namespace Go.Aw
set_option maxRecDepth 100000
attribute [local irreducible] endsL
def kindL (s t:Sg):List (Int × Int)→Int
 |[]=>if turnS s.1 s.2 t.1*turnS s.1 s.2 t.2<0∧turnS t.1 t.2 s.1*turnS t.1 t.2 s.2<0 then 3 else 0
 |[p]=>if (eqP p s.1=true∨eqP p s.2=true)∧(eqP p t.1=true∨eqP p t.2=true) then 1 else 2
 |_::_::_=>4
theorem meetR_L (s t:Sg):meetR s t=kindL s t (endsL s t):=rfl
theorem meetR_of {s t:Sg}{l:List (Int × Int)}(h:endsL s t=l):meetR s t=kindL s t l:=by
 rw [meetR_L,h]
def X72:Nat × XF:=(243,gX (s2 cS cS fun s t=>(wideS s&&wideS t,u8 (meetR s t))))
theorem x72:XOK Go.Proofs.Tryz.prog X72.1 X72.2:=x2 cS cS (xl:=[X70,X57]) (.cons x70 (.cons x57 .nil)) (fun _ _=>rfl) fun s t hp=>by
 obtain⟨⟨ax,ay⟩,⟨bx,b2⟩⟩:=s
 obtain⟨⟨cx,cy⟩,⟨dx,dy⟩⟩:=t
 have l1:=turn_low (ax,ay) (bx,b2) (cx,cy)
 have l2:=turn_low (ax,ay) (bx,b2) (dx,dy)
 have l3:=turn_low (cx,cy) (dx,dy) (ax,ay)
 have l4:=turn_low (cx,cy) (dx,dy) (bx,b2)
 have m1:=mulB (A:=1) (B:=1) l1.1 l1.2 l2.1 l2.2
 have m2:=mulB (A:=1) (B:=1) l3.1 l3.2 l4.1 l4.2
 have hp':=hp
 simp only [wideS,Bool.and_eq_true] at hp
 unfold Does1
 ((conv=>whnf);refine bm (fun g=>?_) (fun g=>?_))
 ·(conv=>whnf)
  generalize he:endsL _ _=L
  have hm:meetR ((ax,ay),(bx,b2)) ((cx,cy),(dx,dy))=kindL ((ax,ay),(bx,b2)) ((cx,cy),(dx,dy)) L:=meetR_of he
  clear he g hp'
  rcases L with _|⟨p,_|⟨q,r⟩⟩
  ·repeat' ((conv=>whnf);refine bm (fun g=>?_) (fun g=>?_))
   all_goals (conv=>whnf)
   all_goals (clear l1 l2 l3 l4)
   all_goals (try (show u8 _=u8 (meetR ((ax,ay),(bx,b2)) ((cx,cy),(dx,dy)));rw [hm];clear hm))
   all_goals (simp only [cA_mul,cA_lt,cA_fits,cA_eqB,cA_num,fitsK,pEta,Bool.and_eq_true,beq_iff_eq,beq_eq_false_iff_ne,ne_eq,decide_eq_true_eq,decide_eq_false_iff_not,not_and,Bool.not_eq_true',Bool.not_eq_false'] at *)
   all_goals first
    |(simp only [kindL,u8];simp_all;done)
    |(simp_all;done)
    |(simp only [Bool.and_eq_false_iff,decide_eq_false_iff_not] at *;omega)
    |(rw [kindL,if_neg fun h=>g h.1];done)
  ·repeat' ((conv=>whnf);refine bm (fun g=>?_) (fun g=>?_))
   all_goals (conv=>whnf)
   all_goals (clear l1 l2 l3 l4 m1 m2 hp)
   all_goals (show u8 _=u8 (meetR ((ax,ay),(bx,b2)) ((cx,cy),(dx,dy)));rw [hm];clear hm)
   all_goals (simp only [cA_eq,cA_andB,cA_mul,cA_lt,cA_fits,cA_eqB,cA_num,fitsK,pEta,beq_iff_eq,beq_eq_false_iff_ne,ne_eq] at *)
   all_goals (simp only [kindL,u8];simp_all [eqP] <;> omega)
  ·((conv=>whnf);refine bm (fun g=>?_) (fun g=>?_))
   ·(conv=>whnf)
    show u8 _=u8 (meetR ((ax,ay),(bx,b2)) ((cx,cy),(dx,dy)))
    rw [hm]
    rfl
   ·exfalso
    simp [cA_lt,cA_num] at g
    omega
 ·exfalso
  rw [show _=true from hp'] at g
  cases g
end Go.Aw
end

noncomputable section
namespace Go.Aw
set_option maxRecDepth 100000
def MeetV (s t:Sg):Int:=if rightG s=true∧rightG t=true then meetS s t else 0
def X22:Nat × XF:=(198,gX (s2 cS cS fun s t=>(true,u8 (MeetV s t))))
theorem x22:XOK Go.Proofs.Tryz.prog X22.1 X22.2:=x2 cS cS (xl:=[X64,X68]) (.cons x64 (.cons x68 .nil)) (fun _ _=>rfl) fun s t _=>by
 obtain⟨⟨ax,ay⟩,⟨bx,b2⟩⟩:=s
 obtain⟨⟨cx,cy⟩,⟨dx,dy⟩⟩:=t
 unfold Does1
 repeat' ((conv=>whnf);refine bm (fun g=>?_) (fun g=>?_))
 all_goals (conv=>whnf)
 all_goals (simp only [cA_eqB,cA_notB,pEta,Bool.not_eq_true',Bool.not_eq_false',beq_iff_eq,beq_eq_false_iff_ne,ne_eq,Bool.not_eq_false,Bool.not_eq_true] at *)
 all_goals first
  |(show u8 _=u8 _;simp [MeetV, *];done)
  |(simp_all [rightG_wide];done)
  |trace_state
def X25:Nat × XF:=(213,gX (s2 cS cS fun s t=>(true,u8 (MeetV s t))))
theorem x25:XOK Go.Proofs.Tryz.prog X25.1 X25.2:=x2 cS cS (xl:=[X66,X72]) (.cons x66 (.cons x72 .nil)) (fun _ _=>rfl) fun s t _=>by
 have e:=meet_eq s t
 obtain⟨⟨ax,ay⟩,⟨bx,b2⟩⟩:=s
 obtain⟨⟨cx,cy⟩,⟨dx,dy⟩⟩:=t
 unfold Does1
 repeat' ((conv=>whnf);refine bm (fun g=>?_) (fun g=>?_))
 all_goals (conv=>whnf)
 all_goals (simp only [cA_eqB,cA_notB,pEta,Bool.not_eq_true',Bool.not_eq_false',beq_iff_eq,beq_eq_false_iff_ne,ne_eq,Bool.not_eq_false,Bool.not_eq_true] at *)
 all_goals first
  |(show u8 _=u8 _;simp [MeetV, *];done)
  |(simp_all [rightG_wide];done)
  |trace_state
end Go.Aw
end
